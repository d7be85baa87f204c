/- FnExactLiveOf: functions of the translation as Lean functions with what their calls come to, plain lemmas on them, and, at the end, the row. Parts of one proof, merged by a program of this session; each part's own sentence stands at its head. -/
import Derived.Test.YtklkhnomnanpoaaProg
import Derived.Below
import Derived.Deep.Draws
import Derived.Deep.AppendLies
import Derived.Maps.AppendAt
import Derived.OwnWalk
import Derived.Laws.BytesArg
import Derived.Laws.MakeOwn
import Derived.Laws.OwnMore
import Derived.Deep.OwnRows
import Derived.Tactics
import Derived.Lib.ConvBytes
import Derived.Laws.Slices
import Derived.WalkKit
import Derived.KernelRfl
import Derived.RowKit3
import Derived.Deep.LoopGhost
import Derived.Deep.QuietTactic
import Derived.BigQuiet
import Derived.WideLaws
import Derived.Deep.DeepCutAuto
import Derived.Deep.CutBlock
import Derived.Deep.RegionHeld3
import Derived.Laws.Rows
import Derived.Lib.AppendStr
import Derived.ArgAppend
import Derived.Laws.IdiomCopy
import Derived.OrdersHeld
import Derived.Laws.BitsLemmas
import Derived.RowKit
import Derived.Test.YtklkhnomnanpoaaMFnExactLiveOfwa
set_option linter.unusedSimpArgs false
set_option linter.unusedVariables false
/- Rows whose elements' inner rows lie apart: a field of an element stored, and an element's own row written by a call. -/
namespace Go.Proofs.YtklkhnomnanpoaaW.PrintWords
open Go.RowKit
namespace Kd
section
variable {α : Type} {d : Kd α} {e g n cap : Nat} {w W w' : World} {base : Nat} {ok oki : Nat → Prop} {v : Value} {xs : List α} {i : Int} {c : List Value}
/-- One field of element i is stored. -/
theorem S_field (h : S d e W base ok (.slice (some ⟨g, 0, none⟩) n cap) xs) (z : α) (i : Int) (h0 : 0 ≤ i) (h1 : i < n) (j : Nat) (u : Value) (hj : j + [u].length ≤ d.sz) {x' : α}
    (hM : ∀ (okp : Nat → Prop) (c : List Value), d.M W base okp (xs.getD i.toNat z) c → d.M W base okp x' (c.take j ++ [u] ++ c.drop (j + [u].length))) :
    S d e (W.setCell ⟨g, i.toNat * d.sz + j, none⟩ u) base ok (.slice (some ⟨g, 0, none⟩) n cap) (xs.set i.toNat x') ∧ W.grownBy (W.setCell ⟨g, i.toNat * d.sz + j, none⟩ u) (some g) := by
  have hS : S d e W base (fun k => ok k ∧ ¬ (fun _ => False) k) (.slice (some ⟨g, 0, none⟩) n cap) xs := S_mono h (fun k hk => ⟨hk, fun h => h⟩)
  obtain ⟨oki, c, _, hMc, _, _, _, hH⟩ := S_elem hS z i h0 h1
  have r := S_seg (seg := [u]) (j := j) hH h0 h1 hj (hM oki c hMc) (fun _ hk => .inl hk) (fun _ hk => hk.elim)
  exact r
/-- What element i leads to was written by a call that keeps all else. -/
theorem S_called (hH : H d e W base ok v xs i oki c) (hk : Kept W w' oki) {x' : α} (hM : d.M w' base (fun k => oki k ∨ W.heap.size ≤ k) x' c) (hok : ∀ k, W.heap.size ≤ k → ok k) : S d e w' base ok v (xs.set i.toNat x') :=
  H_back (H_kept (H_widen hH) hk (fun _ _ hn hS => hn (.inl hS))) hM (fun k hk => hk.imp id (fun h => ⟨hok k h, h⟩))
/-- Cells of element i are stored; what they lead to is new to the row. -/
theorem S_put (h : S d e W base ok (.slice (some ⟨g, 0, none⟩) n cap) xs) (z : α) (i : Int) (h0 : 0 ≤ i) (h1 : i < n) (j : Nat) (seg : List Value) (hj : j + seg.length ≤ d.sz) {okv : Nat → Prop} (hap : ∀ k, ok k → okv k → False) (hg : ∀ k, okv k → k ≠ g) {x' : α}
    (hM : ∀ (okp : Nat → Prop) (c : List Value), d.M W base okp (xs.getD i.toNat z) c → d.M W base (fun k => okp k ∨ okv k) x' (c.take j ++ seg ++ c.drop (j + seg.length))) :
    S d e (W.setCells g (i.toNat * d.sz + j) seg) base (fun k => ok k ∨ okv k) (.slice (some ⟨g, 0, none⟩) n cap) (xs.set i.toNat x') ∧ W.grownBy (W.setCells g (i.toNat * d.sz + j) seg) (some g) := by
  have hS : S d e W base (fun k => (ok k ∨ okv k) ∧ ¬ okv k) (.slice (some ⟨g, 0, none⟩) n cap) xs := S_mono h (fun k hk => ⟨.inl hk, fun h2 => hap k hk h2⟩)
  obtain ⟨oki, c, _, hMc, _, _, _, hH⟩ := S_elem hS z i h0 h1
  exact S_seg (okg := okv) hH h0 h1 hj (hM oki c hMc) (fun _ hk => hk) (fun k hk => ⟨.inr hk, hg k hk⟩)
/-- Two rows that came at once, of types apart: their blocks are apart. -/
theorem two_apart {β : Type} {d' : Kd β} {e' : Nat} {base' : Nat} {ok' : Nat → Prop} {v' : Value} {ys : List β} (h : d.R e w base ok v xs) (h' : S d' e' w base' ok' v' ys) (ht : ∀ q, q ∈ e :: d.E → ∀ q', q' ∈ e' :: d'.E → q ≠ q') :
    ∃ TA TB : Nat → Prop, (∀ k, TA k → TB k → False) ∧ d.R e w base (fun k => (base ≤ k ∧ k < w.heap.size) ∧ TA k) v xs ∧ S d' e' w base' (fun k => (base' ≤ k ∧ k < w.heap.size) ∧ TB k) v' ys := by
  refine ⟨fun k => ∃ q, q ∈ e :: d.E ∧ ∃ cells, w.heap[k]? = some (.cells cells q (0, 0)), fun k => ∃ q, q ∈ e' :: d'.E ∧ ∃ cells, w.heap[k]? = some (.cells cells q (0, 0)), ?_, R_mono (R_bound h) (fun k hk => ⟨⟨hk.2.1, hk.2.2.1⟩, hk.2.2.2⟩), S_mono (S_bound h') (fun k hk => ⟨⟨hk.2.1, hk.2.2.1⟩, hk.2.2.2⟩)⟩
  rintro k ⟨q, hq, c, hc⟩ ⟨q', hq', c', hc'⟩
  rw [hc] at hc'
  injection hc' with hc'
  injection hc' with h1 h2 h3
  exact ht q hq q' hq' h2
/-- Two rows that came at once, the second one's block none of the first one's. -/
theorem two_told {β : Type} {d' : Kd β} {e' : Nat} {base' : Nat} {ok' : Nat → Prop} {v' : Value} {ys : List β} (h : S d e w base (fun k => some k ≠ v'.ownBlock) v xs) (h' : d'.R e' w base' ok' v' ys) (hE : d'.E = []) :
    ∃ TA TB : Nat → Prop, (∀ k, TA k → TB k → False) ∧ S d e w base (fun k => (base ≤ k ∧ k < w.heap.size) ∧ TA k) v xs ∧ d'.R e' w base' (fun k => (base' ≤ k ∧ k < w.heap.size) ∧ TB k) v' ys :=
  ⟨fun k => some k ≠ v'.ownBlock, fun k => some k = v'.ownBlock, fun k h1 h2 => h1 h2, S_mono (S_bound h) (fun k hk => ⟨⟨hk.2.1, hk.2.2.1⟩, hk.1⟩), R_mono (R_bound (R_tight hE h')) (fun k hk => ⟨⟨hk.2.1, hk.2.2.1⟩, hk.1⟩)⟩
end
section
variable {P : Program} {ops : Array Oper} {rest : List Oper} {o : Oper} {a : Act} {Q : Exit → Act → World → Prop} {α : Type}
/-- A literal of two elements that lead to rows apart. -/
theorem S_lit2 (d : Kd α) {w0 W : World} (base e : Nat) (hgd : o.guard = none) {N : Tmp} (hd : o.dst = some N) {x y : α} {cx cy : List Value} {okx oky : Nat → Prop}
    (hrun : (execOp a.eval o).run P W = .ok (.value (.slice (some ⟨W.heap.size, 0, none⟩) 2 2)) (W.alloc (.cells (cx ++ cy).toArray e)))
    (hx : d.M W base okx x cx) (hy : d.M W base oky y cy) (hap : ∀ k, okx k → oky k → False) (HB : Below base w0 W) (hbase : base ≤ W.heap.size)
    (h : ∀ v1 w1, S d e w1 base (fun k => (okx k ∨ oky k) ∨ W.heap.size ≤ k) v1 [x, y] → Below base w0 w1 → Below W.heap.size W w1 → wpList P ops Q rest (a.put o.dst v1) w1) : wpList P ops Q (o :: rest) a W := by
  have lx : cx.length = d.sz := d.K_len (d.K_of_M hx)
  have ly : cy.length = d.sz := d.K_len (d.K_of_M hy)
  refine S_lits d base e hgd hd (xs := [x, y]) (inner := cx ++ cy) (ok := fun k => (okx k ∨ oky k) ∨ W.heap.size ≤ k) (fun j k => (j = 0 ∧ okx k) ∨ (j = 1 ∧ oky k)) hrun (by rw [List.length_append, lx, ly]; simp; omega) ?_ ?_ ?_ (.inr (Nat.le_refl _)) HB hbase (by simp) (fun v1 w1 hS hb hg _ => h v1 w1 hS hb ⟨hg.os, hg.tape, hg.output, hg.size, fun i hi => hg.block i hi (by simp)⟩)
  · intro j z hz
    rcases j with _ | _ | j
    · obtain rfl : x = z := Option.some.inj hz
      rw [Nat.zero_mul, List.drop_zero, ← lx, List.take_left]
      exact d.M_mono (fun k hk => .inl ⟨rfl, hk⟩) hx
    · obtain rfl : y = z := Option.some.inj hz
      rw [Nat.zero_add, Nat.one_mul, ← lx, List.drop_left, lx, ← ly, List.take_length]
      exact d.M_mono (fun k hk => .inr ⟨rfl, hk⟩) hy
    · simp at hz
  · rintro i j k (⟨rfl, h1⟩ | ⟨rfl, h1⟩) (⟨rfl, h2⟩ | ⟨rfl, h2⟩)
    · rfl
    · exact (hap k h1 h2).elim
    · exact (hap k h2 h1).elim
    · rfl
  · rintro j k (⟨_, h1⟩ | ⟨_, h1⟩)
    · exact .inl (.inl h1)
    · exact .inl (.inr h1)
open Classical in
/-- append(v, x...), behind 'at_builtin': x's elements lead to rows that lie apart, none of them v's. -/
theorem S_append_rows (d : Kd α) {w0 W : World} (base : Nat) (hgd : o.guard = none) (s x : Operand) (t e : TypeId) (z : Value) (bytes : Nat)
    (ho : o.op = .call { callee := .builtin .append, args := #[s, x], argTypes := #[t, t] })
    (ht : P.underlying t = some (.slice e)) (hinfo : (P.info? e).map (fun i => (i.zero, i.size, i.bytes)) = some (some z, d.sz, bytes)) (hz : z.cells.size = d.sz) (hs0 : 0 < d.sz) (hb0 : 0 < bytes)
    (v : Value) (xs ys : List α) (A : Option Addr) (m c : Nat) (ok okv oku : Nat → Prop) (hs : a.eval s = v) (hx : a.eval x = .slice A m c)
    (HO : S d e W base okv v xs) (H2 : S d e W base oku (.slice A m c) ys) (hap : ∀ k, okv k → oku k → False) (h1 : ∀ k, okv k → ok k) (h2 : ∀ k, oku k → ok k) (hfresh : ∀ k, W.heap.size ≤ k → ok k)
    (HB : Below base w0 W) (hbase : base ≤ W.heap.size) (hl : (xs.length + m) * bytes ≤ 140737488355328)
    (h : ∀ v1 w1, S d e w1 base ok v1 (xs ++ ys) → Below base w0 w1 → W.grownBy w1 v.ownBlock → (v1.ownBlock = v.ownBlock ∨ ∃ b, v1.ownBlock = some b ∧ W.heap.size ≤ b) → wpList P ops Q rest (a.put o.dst v1) w1) :
    wpList P ops Q (o :: rest) a W := by
  obtain ⟨f1, R1⟩ := HO
  obtain ⟨f2, R2⟩ := H2
  have R1' : (tag (fun k => if oku k then f2 k + xs.length else f1 k) d).R e W base okv v xs.zipIdx := R_tag R1 (fun k hk _ => if_neg (fun h => hap k hk h))
  have hm := (R_reads' R2).1
  rw [List.length_zipIdx] at hm
  obtain ⟨_, inner, ho2, hr2⟩ := R2
  obtain ⟨A', c', he, hR2⟩ := own_reads_row ho2 hr2 rfl
  injection he with ea en ec
  subst ea
  have HR : ReadsRow (fun p cs => (tag (fun k => if oku k then f2 k + xs.length else f1 k) d).M W base oku p cs) (tag (fun k => if oku k then f2 k + xs.length else f1 k) d).sz W A m (ys.zipIdx xs.length) := by
    refine ⟨by rw [List.length_zipIdx]; exact hm.symm, by have := hR2.2.1; omega, fun hn => ?_⟩
    obtain ⟨ad, e2, hc⟩ := hR2.2.2 (by omega)
    refine ⟨ad, e2, fun j p hj => ?_⟩
    rw [List.getElem?_zipIdx] at hj
    obtain ⟨y, hy, rfl⟩ := Option.map_eq_some_iff.1 hj
    obtain ⟨cs, hl2, hM, hcell⟩ := hc j (y, j) (zip_at hy)
    refine ⟨cs, hl2, ?_, hcell⟩
    refine d.M_mono (fun k hk => ⟨hk.1.1, ?_⟩) hM
    show (if oku k then f2 k + xs.length else f1 k) = xs.length + j
    have h3 : f2 k = j := hk.2
    rw [if_pos hk.1.1, h3, Nat.add_comm]
  refine R_append_rows (tag (fun k => if oku k then f2 k + xs.length else f1 k) d) base hgd s x t e z bytes ho ht hinfo hz hs0 hb0 v xs.zipIdx (ys.zipIdx xs.length) A m c ok oku hs hx (R_mono R1' h1) HR (fun _ _ h => h) (fun k hk => ⟨h2 k hk, fun he => hap k (R1.1 k he.symm) hk⟩) hfresh HB hbase (by rw [List.length_zipIdx]; exact hl) ?_
  intro v1 w1 hr
  rw [show xs.zipIdx ++ ys.zipIdx xs.length = (xs ++ ys).zipIdx from by rw [List.zipIdx_append]; simp] at hr
  exact h v1 w1 ⟨_, hr⟩
end
end Kd
end Go.Proofs.YtklkhnomnanpoaaW.PrintWords

/- Short words for facts that are carried over worlds that only drew or made an object. -/
namespace Go.Proofs.YtklkhnomnanpoaaW.PrintWords
open Go.RowKit
theorem zMk {p : Prop} (h : p) : Aside0 p := ⟨h⟩
theorem zFr {w : World} {g : Nat} {t : TypeId} {cs : Array Value} (h : w.heap[g]? = some (.cells cs t (0, 0))) (i : Nat) : w.frozen? ⟨g, i, none⟩ = false := blk_frozen h i
theorem zCl {w : World} {g : Nat} {t : TypeId} {cs : Array Value} (h : w.heap[g]? = some (.cells cs t (0, 0))) (i : Nat) : w.cell? ⟨g, i, none⟩ = cs[i]? := blk_cell h i
theorem zBl (w : World) (a : Addr) {u : Value} (h : w.cell? a = some u) : a.block < w.heap.size := World.block_lt_of_cell? w a h
theorem zDe {p : Prop} [Decidable p] (h : decide p = true) : p := of_decide_eq_true h
theorem zS1 {α : Type} (l : List α) (i : Nat) (a : α) : l.toArray.setIfInBounds i a = (l.set i a).toArray := List.setIfInBounds_toArray ..
theorem zS2 {α : Type} {x : α} {xs : List α} {a : α} : (x :: xs).set 0 a = a :: xs := rfl
theorem zS3 {α : Type} {x : α} {xs : List α} {i : Nat} {a : α} : (x :: xs).set (i + 1) a = x :: xs.set i a := rfl

inductive Strip (w0 : World) : World → Prop
  | refl : Strip w0 w0
  | alloc {w : World} (h : Strip w0 w) (o : Obj) : Strip w0 (w.alloc o)
  | drew {w : World} (h : Strip w0 w) : Strip w0 w.drew
  | drewN {w : World} (h : Strip w0 w) (m : Nat) : Strip w0 (w.drewN m)
theorem rs {α : Type} {d : Kd α} {e : TypeId} {w0 w : World} {base : Nat} {ok : Nat → Prop} {v : Value} {xs : List α} (a : Aside0 (d.R e w0 base ok v xs))
    (s : Strip w0 w := by (with_reducible repeat (first | refine Strip.alloc ?_ _ | refine Strip.drewN ?_ _ | refine Strip.drew ?_)); with_reducible exact Strip.refl) : d.R e w base ok v xs := by
  induction s with
  | refl => exact a.out
  | alloc _ o ih => exact Kd.R_alloc ih o
  | drew _ ih => exact Kd.R_drew ih
  | drewN _ m ih => exact Kd.R_drewN ih m
theorem bs {w0 w : World} {g : Nat} {o : Obj} (a : Aside0 (w0.heap[g]? = some o))
    (s : Strip w0 w := by (with_reducible repeat (first | refine Strip.alloc ?_ _ | refine Strip.drewN ?_ _ | refine Strip.drew ?_)); with_reducible exact Strip.refl) : w.heap[g]? = some o := by
  induction s with
  | refl => exact a.out
  | alloc _ o ih => exact blk_alloc ih o
  | drew _ ih => exact blk_drew ih
  | drewN _ m ih => exact blk_drewN ih m
theorem hs {u w0 w : World} (a : Aside0 (Below u.heap.size u w0))
    (s : Strip w0 w := by (with_reducible repeat (first | refine Strip.alloc ?_ _ | refine Strip.drewN ?_ _ | refine Strip.drew ?_)); with_reducible exact Strip.refl) : Below u.heap.size u w := by
  induction s with
  | refl => exact a.out
  | alloc _ o ih => exact below_alloc ih o
  | drew _ ih => exact below_drew1 ih
  | drewN _ m ih => exact pw_below_drewN ih m
theorem ss {α : Type} {d : Kd α} {e : TypeId} {w0 w : World} {base : Nat} {ok : Nat → Prop} {v : Value} {xs : List α} (a : Aside0 (d.S e w0 base ok v xs))
    (s : Strip w0 w := by (with_reducible repeat (first | refine Strip.alloc ?_ _ | refine Strip.drewN ?_ _ | refine Strip.drew ?_)); with_reducible exact Strip.refl) : d.S e w base ok v xs := by
  induction s with
  | refl => exact a.out
  | alloc _ o ih => exact Kd.S_alloc ih o
  | drew _ ih => exact Kd.S_drew ih
  | drewN _ m ih => exact Kd.S_drewN ih m
inductive StripG (G : Nat → Prop) (w0 : World) : World → Prop
  | refl : StripG G w0 w0
  | alloc {w : World} (h : StripG G w0 w) (o : Obj) : StripG G w0 (w.alloc o)
  | drew {w : World} (h : StripG G w0 w) : StripG G w0 w.drew
  | drewN {w : World} (h : StripG G w0 w) (m : Nat) : StripG G w0 (w.drewN m)
  | set {w : World} {g j : Nat} {v : Value} (h : StripG G w0 w) (hg : G g) : StripG G w0 (w.setCell ⟨g, j, none⟩ v)
theorem hsG {G : Nat → Prop} {u w0 w : World} (a : Below u.heap.size u w0) (hG : ∀ g, G g → u.heap.size ≤ g) (s : StripG G w0 w) : Below u.heap.size u w := by
  induction s with
  | refl => exact a
  | alloc _ o ih => exact below_alloc ih o
  | drew _ ih => exact below_drew1 ih
  | drewN _ m ih => exact pw_below_drewN ih m
  | set _ hg ih => exact below_set ih (hG _ hg)
theorem hs1 {u w0 w : World} {g1 : Nat} (a : Aside0 (Below u.heap.size u w0)) (b1 : Aside0 (u.heap.size ≤ g1))
    (s : StripG (fun g => g = g1) w0 w := by repeat (first | (with_reducible exact StripG.refl) | (with_reducible refine StripG.alloc ?_ _) | (with_reducible refine StripG.drewN ?_ _) | (with_reducible refine StripG.drew ?_) | (with_reducible refine StripG.set ?_ (by repeat (first | (with_reducible exact rfl) | (with_reducible exact Or.inl rfl) | (with_reducible apply Or.inr)))))) : Below u.heap.size u w :=
  hsG a.out (fun g h => by subst h; exact b1.out) s
theorem hs2 {u w0 w : World} {g1 g2 : Nat} (a : Aside0 (Below u.heap.size u w0)) (b1 : Aside0 (u.heap.size ≤ g1)) (b2 : Aside0 (u.heap.size ≤ g2))
    (s : StripG (fun g => g = g1 ∨ g = g2) w0 w := by repeat (first | (with_reducible exact StripG.refl) | (with_reducible refine StripG.alloc ?_ _) | (with_reducible refine StripG.drewN ?_ _) | (with_reducible refine StripG.drew ?_) | (with_reducible refine StripG.set ?_ (by repeat (first | (with_reducible exact rfl) | (with_reducible exact Or.inl rfl) | (with_reducible apply Or.inr)))))) : Below u.heap.size u w :=
  hsG a.out (fun g (h : g = g1 ∨ g = g2) => by rcases h with rfl | rfl <;> (first | exact b1.out | exact b2.out)) s
theorem hs3 {u w0 w : World} {g1 g2 g3 : Nat} (a : Aside0 (Below u.heap.size u w0)) (b1 : Aside0 (u.heap.size ≤ g1)) (b2 : Aside0 (u.heap.size ≤ g2)) (b3 : Aside0 (u.heap.size ≤ g3))
    (s : StripG (fun g => g = g1 ∨ g = g2 ∨ g = g3) w0 w := by repeat (first | (with_reducible exact StripG.refl) | (with_reducible refine StripG.alloc ?_ _) | (with_reducible refine StripG.drewN ?_ _) | (with_reducible refine StripG.drew ?_) | (with_reducible refine StripG.set ?_ (by repeat (first | (with_reducible exact rfl) | (with_reducible exact Or.inl rfl) | (with_reducible apply Or.inr)))))) : Below u.heap.size u w :=
  hsG a.out (fun g (h : g = g1 ∨ g = g2 ∨ g = g3) => by rcases h with rfl | rfl | rfl <;> (first | exact b1.out | exact b2.out | exact b3.out)) s
theorem hs4 {u w0 w : World} {g1 g2 g3 g4 : Nat} (a : Aside0 (Below u.heap.size u w0)) (b1 : Aside0 (u.heap.size ≤ g1)) (b2 : Aside0 (u.heap.size ≤ g2)) (b3 : Aside0 (u.heap.size ≤ g3)) (b4 : Aside0 (u.heap.size ≤ g4))
    (s : StripG (fun g => g = g1 ∨ g = g2 ∨ g = g3 ∨ g = g4) w0 w := by repeat (first | (with_reducible exact StripG.refl) | (with_reducible refine StripG.alloc ?_ _) | (with_reducible refine StripG.drewN ?_ _) | (with_reducible refine StripG.drew ?_) | (with_reducible refine StripG.set ?_ (by repeat (first | (with_reducible exact rfl) | (with_reducible exact Or.inl rfl) | (with_reducible apply Or.inr)))))) : Below u.heap.size u w :=
  hsG a.out (fun g (h : g = g1 ∨ g = g2 ∨ g = g3 ∨ g = g4) => by rcases h with rfl | rfl | rfl | rfl <;> (first | exact b1.out | exact b2.out | exact b3.out | exact b4.out)) s
theorem hs5 {u w0 w : World} {g1 g2 g3 g4 g5 : Nat} (a : Aside0 (Below u.heap.size u w0)) (b1 : Aside0 (u.heap.size ≤ g1)) (b2 : Aside0 (u.heap.size ≤ g2)) (b3 : Aside0 (u.heap.size ≤ g3)) (b4 : Aside0 (u.heap.size ≤ g4)) (b5 : Aside0 (u.heap.size ≤ g5))
    (s : StripG (fun g => g = g1 ∨ g = g2 ∨ g = g3 ∨ g = g4 ∨ g = g5) w0 w := by repeat (first | (with_reducible exact StripG.refl) | (with_reducible refine StripG.alloc ?_ _) | (with_reducible refine StripG.drewN ?_ _) | (with_reducible refine StripG.drew ?_) | (with_reducible refine StripG.set ?_ (by repeat (first | (with_reducible exact rfl) | (with_reducible exact Or.inl rfl) | (with_reducible apply Or.inr)))))) : Below u.heap.size u w :=
  hsG a.out (fun g (h : g = g1 ∨ g = g2 ∨ g = g3 ∨ g = g4 ∨ g = g5) => by rcases h with rfl | rfl | rfl | rfl | rfl <;> (first | exact b1.out | exact b2.out | exact b3.out | exact b4.out | exact b5.out)) s
/-- A block's cells, and that none is frozen. -/
theorem zB1 {w : World} {g : Nat} {t : TypeId} {a0 : Value} (h : w.heap[g]? = some (.cells #[a0] t (0, 0))) : w.cell? ⟨g, 0, none⟩ = some a0 ∧ w.frozen? ⟨g, 0, none⟩ = false :=
  ⟨(blk_cell h 0).trans rfl, blk_frozen h 0⟩
theorem zC1 {w : World} {g : Nat} {t : TypeId} {a0 : Value} (h : w.heap[g]? = some (.cells #[a0] t (0, 0))) : w.cell? ⟨g, 0, none⟩ = some a0 :=
  (blk_cell h 0).trans rfl
theorem zB2 {w : World} {g : Nat} {t : TypeId} {a0 a1 : Value} (h : w.heap[g]? = some (.cells #[a0, a1] t (0, 0))) : w.cell? ⟨g, 0, none⟩ = some a0 ∧ w.cell? ⟨g, 1, none⟩ = some a1 ∧ w.frozen? ⟨g, 0, none⟩ = false ∧ w.frozen? ⟨g, 1, none⟩ = false :=
  ⟨(blk_cell h 0).trans rfl, (blk_cell h 1).trans rfl, blk_frozen h 0, blk_frozen h 1⟩
theorem zC2 {w : World} {g : Nat} {t : TypeId} {a0 a1 : Value} (h : w.heap[g]? = some (.cells #[a0, a1] t (0, 0))) : w.cell? ⟨g, 0, none⟩ = some a0 ∧ w.cell? ⟨g, 1, none⟩ = some a1 :=
  ⟨(blk_cell h 0).trans rfl, (blk_cell h 1).trans rfl⟩
theorem zB3 {w : World} {g : Nat} {t : TypeId} {a0 a1 a2 : Value} (h : w.heap[g]? = some (.cells #[a0, a1, a2] t (0, 0))) : w.cell? ⟨g, 0, none⟩ = some a0 ∧ w.cell? ⟨g, 1, none⟩ = some a1 ∧ w.cell? ⟨g, 2, none⟩ = some a2 ∧ w.frozen? ⟨g, 0, none⟩ = false ∧ w.frozen? ⟨g, 1, none⟩ = false ∧ w.frozen? ⟨g, 2, none⟩ = false :=
  ⟨(blk_cell h 0).trans rfl, (blk_cell h 1).trans rfl, (blk_cell h 2).trans rfl, blk_frozen h 0, blk_frozen h 1, blk_frozen h 2⟩
theorem zC3 {w : World} {g : Nat} {t : TypeId} {a0 a1 a2 : Value} (h : w.heap[g]? = some (.cells #[a0, a1, a2] t (0, 0))) : w.cell? ⟨g, 0, none⟩ = some a0 ∧ w.cell? ⟨g, 1, none⟩ = some a1 ∧ w.cell? ⟨g, 2, none⟩ = some a2 :=
  ⟨(blk_cell h 0).trans rfl, (blk_cell h 1).trans rfl, (blk_cell h 2).trans rfl⟩
theorem zB4 {w : World} {g : Nat} {t : TypeId} {a0 a1 a2 a3 : Value} (h : w.heap[g]? = some (.cells #[a0, a1, a2, a3] t (0, 0))) : w.cell? ⟨g, 0, none⟩ = some a0 ∧ w.cell? ⟨g, 1, none⟩ = some a1 ∧ w.cell? ⟨g, 2, none⟩ = some a2 ∧ w.cell? ⟨g, 3, none⟩ = some a3 ∧ w.frozen? ⟨g, 0, none⟩ = false ∧ w.frozen? ⟨g, 1, none⟩ = false ∧ w.frozen? ⟨g, 2, none⟩ = false ∧ w.frozen? ⟨g, 3, none⟩ = false :=
  ⟨(blk_cell h 0).trans rfl, (blk_cell h 1).trans rfl, (blk_cell h 2).trans rfl, (blk_cell h 3).trans rfl, blk_frozen h 0, blk_frozen h 1, blk_frozen h 2, blk_frozen h 3⟩
theorem zC4 {w : World} {g : Nat} {t : TypeId} {a0 a1 a2 a3 : Value} (h : w.heap[g]? = some (.cells #[a0, a1, a2, a3] t (0, 0))) : w.cell? ⟨g, 0, none⟩ = some a0 ∧ w.cell? ⟨g, 1, none⟩ = some a1 ∧ w.cell? ⟨g, 2, none⟩ = some a2 ∧ w.cell? ⟨g, 3, none⟩ = some a3 :=
  ⟨(blk_cell h 0).trans rfl, (blk_cell h 1).trans rfl, (blk_cell h 2).trans rfl, (blk_cell h 3).trans rfl⟩
theorem zB5 {w : World} {g : Nat} {t : TypeId} {a0 a1 a2 a3 a4 : Value} (h : w.heap[g]? = some (.cells #[a0, a1, a2, a3, a4] t (0, 0))) : w.cell? ⟨g, 0, none⟩ = some a0 ∧ w.cell? ⟨g, 1, none⟩ = some a1 ∧ w.cell? ⟨g, 2, none⟩ = some a2 ∧ w.cell? ⟨g, 3, none⟩ = some a3 ∧ w.cell? ⟨g, 4, none⟩ = some a4 ∧ w.frozen? ⟨g, 0, none⟩ = false ∧ w.frozen? ⟨g, 1, none⟩ = false ∧ w.frozen? ⟨g, 2, none⟩ = false ∧ w.frozen? ⟨g, 3, none⟩ = false ∧ w.frozen? ⟨g, 4, none⟩ = false :=
  ⟨(blk_cell h 0).trans rfl, (blk_cell h 1).trans rfl, (blk_cell h 2).trans rfl, (blk_cell h 3).trans rfl, (blk_cell h 4).trans rfl, blk_frozen h 0, blk_frozen h 1, blk_frozen h 2, blk_frozen h 3, blk_frozen h 4⟩
theorem zC5 {w : World} {g : Nat} {t : TypeId} {a0 a1 a2 a3 a4 : Value} (h : w.heap[g]? = some (.cells #[a0, a1, a2, a3, a4] t (0, 0))) : w.cell? ⟨g, 0, none⟩ = some a0 ∧ w.cell? ⟨g, 1, none⟩ = some a1 ∧ w.cell? ⟨g, 2, none⟩ = some a2 ∧ w.cell? ⟨g, 3, none⟩ = some a3 ∧ w.cell? ⟨g, 4, none⟩ = some a4 :=
  ⟨(blk_cell h 0).trans rfl, (blk_cell h 1).trans rfl, (blk_cell h 2).trans rfl, (blk_cell h 3).trans rfl, (blk_cell h 4).trans rfl⟩
theorem zB6 {w : World} {g : Nat} {t : TypeId} {a0 a1 a2 a3 a4 a5 : Value} (h : w.heap[g]? = some (.cells #[a0, a1, a2, a3, a4, a5] t (0, 0))) : w.cell? ⟨g, 0, none⟩ = some a0 ∧ w.cell? ⟨g, 1, none⟩ = some a1 ∧ w.cell? ⟨g, 2, none⟩ = some a2 ∧ w.cell? ⟨g, 3, none⟩ = some a3 ∧ w.cell? ⟨g, 4, none⟩ = some a4 ∧ w.cell? ⟨g, 5, none⟩ = some a5 ∧ w.frozen? ⟨g, 0, none⟩ = false ∧ w.frozen? ⟨g, 1, none⟩ = false ∧ w.frozen? ⟨g, 2, none⟩ = false ∧ w.frozen? ⟨g, 3, none⟩ = false ∧ w.frozen? ⟨g, 4, none⟩ = false ∧ w.frozen? ⟨g, 5, none⟩ = false :=
  ⟨(blk_cell h 0).trans rfl, (blk_cell h 1).trans rfl, (blk_cell h 2).trans rfl, (blk_cell h 3).trans rfl, (blk_cell h 4).trans rfl, (blk_cell h 5).trans rfl, blk_frozen h 0, blk_frozen h 1, blk_frozen h 2, blk_frozen h 3, blk_frozen h 4, blk_frozen h 5⟩
theorem zC6 {w : World} {g : Nat} {t : TypeId} {a0 a1 a2 a3 a4 a5 : Value} (h : w.heap[g]? = some (.cells #[a0, a1, a2, a3, a4, a5] t (0, 0))) : w.cell? ⟨g, 0, none⟩ = some a0 ∧ w.cell? ⟨g, 1, none⟩ = some a1 ∧ w.cell? ⟨g, 2, none⟩ = some a2 ∧ w.cell? ⟨g, 3, none⟩ = some a3 ∧ w.cell? ⟨g, 4, none⟩ = some a4 ∧ w.cell? ⟨g, 5, none⟩ = some a5 :=
  ⟨(blk_cell h 0).trans rfl, (blk_cell h 1).trans rfl, (blk_cell h 2).trans rfl, (blk_cell h 3).trans rfl, (blk_cell h 4).trans rfl, (blk_cell h 5).trans rfl⟩
theorem zB7 {w : World} {g : Nat} {t : TypeId} {a0 a1 a2 a3 a4 a5 a6 : Value} (h : w.heap[g]? = some (.cells #[a0, a1, a2, a3, a4, a5, a6] t (0, 0))) : w.cell? ⟨g, 0, none⟩ = some a0 ∧ w.cell? ⟨g, 1, none⟩ = some a1 ∧ w.cell? ⟨g, 2, none⟩ = some a2 ∧ w.cell? ⟨g, 3, none⟩ = some a3 ∧ w.cell? ⟨g, 4, none⟩ = some a4 ∧ w.cell? ⟨g, 5, none⟩ = some a5 ∧ w.cell? ⟨g, 6, none⟩ = some a6 ∧ w.frozen? ⟨g, 0, none⟩ = false ∧ w.frozen? ⟨g, 1, none⟩ = false ∧ w.frozen? ⟨g, 2, none⟩ = false ∧ w.frozen? ⟨g, 3, none⟩ = false ∧ w.frozen? ⟨g, 4, none⟩ = false ∧ w.frozen? ⟨g, 5, none⟩ = false ∧ w.frozen? ⟨g, 6, none⟩ = false :=
  ⟨(blk_cell h 0).trans rfl, (blk_cell h 1).trans rfl, (blk_cell h 2).trans rfl, (blk_cell h 3).trans rfl, (blk_cell h 4).trans rfl, (blk_cell h 5).trans rfl, (blk_cell h 6).trans rfl, blk_frozen h 0, blk_frozen h 1, blk_frozen h 2, blk_frozen h 3, blk_frozen h 4, blk_frozen h 5, blk_frozen h 6⟩
theorem zC7 {w : World} {g : Nat} {t : TypeId} {a0 a1 a2 a3 a4 a5 a6 : Value} (h : w.heap[g]? = some (.cells #[a0, a1, a2, a3, a4, a5, a6] t (0, 0))) : w.cell? ⟨g, 0, none⟩ = some a0 ∧ w.cell? ⟨g, 1, none⟩ = some a1 ∧ w.cell? ⟨g, 2, none⟩ = some a2 ∧ w.cell? ⟨g, 3, none⟩ = some a3 ∧ w.cell? ⟨g, 4, none⟩ = some a4 ∧ w.cell? ⟨g, 5, none⟩ = some a5 ∧ w.cell? ⟨g, 6, none⟩ = some a6 :=
  ⟨(blk_cell h 0).trans rfl, (blk_cell h 1).trans rfl, (blk_cell h 2).trans rfl, (blk_cell h 3).trans rfl, (blk_cell h 4).trans rfl, (blk_cell h 5).trans rfl, (blk_cell h 6).trans rfl⟩
theorem zB8 {w : World} {g : Nat} {t : TypeId} {a0 a1 a2 a3 a4 a5 a6 a7 : Value} (h : w.heap[g]? = some (.cells #[a0, a1, a2, a3, a4, a5, a6, a7] t (0, 0))) : w.cell? ⟨g, 0, none⟩ = some a0 ∧ w.cell? ⟨g, 1, none⟩ = some a1 ∧ w.cell? ⟨g, 2, none⟩ = some a2 ∧ w.cell? ⟨g, 3, none⟩ = some a3 ∧ w.cell? ⟨g, 4, none⟩ = some a4 ∧ w.cell? ⟨g, 5, none⟩ = some a5 ∧ w.cell? ⟨g, 6, none⟩ = some a6 ∧ w.cell? ⟨g, 7, none⟩ = some a7 ∧ w.frozen? ⟨g, 0, none⟩ = false ∧ w.frozen? ⟨g, 1, none⟩ = false ∧ w.frozen? ⟨g, 2, none⟩ = false ∧ w.frozen? ⟨g, 3, none⟩ = false ∧ w.frozen? ⟨g, 4, none⟩ = false ∧ w.frozen? ⟨g, 5, none⟩ = false ∧ w.frozen? ⟨g, 6, none⟩ = false ∧ w.frozen? ⟨g, 7, none⟩ = false :=
  ⟨(blk_cell h 0).trans rfl, (blk_cell h 1).trans rfl, (blk_cell h 2).trans rfl, (blk_cell h 3).trans rfl, (blk_cell h 4).trans rfl, (blk_cell h 5).trans rfl, (blk_cell h 6).trans rfl, (blk_cell h 7).trans rfl, blk_frozen h 0, blk_frozen h 1, blk_frozen h 2, blk_frozen h 3, blk_frozen h 4, blk_frozen h 5, blk_frozen h 6, blk_frozen h 7⟩
theorem zC8 {w : World} {g : Nat} {t : TypeId} {a0 a1 a2 a3 a4 a5 a6 a7 : Value} (h : w.heap[g]? = some (.cells #[a0, a1, a2, a3, a4, a5, a6, a7] t (0, 0))) : w.cell? ⟨g, 0, none⟩ = some a0 ∧ w.cell? ⟨g, 1, none⟩ = some a1 ∧ w.cell? ⟨g, 2, none⟩ = some a2 ∧ w.cell? ⟨g, 3, none⟩ = some a3 ∧ w.cell? ⟨g, 4, none⟩ = some a4 ∧ w.cell? ⟨g, 5, none⟩ = some a5 ∧ w.cell? ⟨g, 6, none⟩ = some a6 ∧ w.cell? ⟨g, 7, none⟩ = some a7 :=
  ⟨(blk_cell h 0).trans rfl, (blk_cell h 1).trans rfl, (blk_cell h 2).trans rfl, (blk_cell h 3).trans rfl, (blk_cell h 4).trans rfl, (blk_cell h 5).trans rfl, (blk_cell h 6).trans rfl, (blk_cell h 7).trans rfl⟩
theorem zB9 {w : World} {g : Nat} {t : TypeId} {a0 a1 a2 a3 a4 a5 a6 a7 a8 : Value} (h : w.heap[g]? = some (.cells #[a0, a1, a2, a3, a4, a5, a6, a7, a8] t (0, 0))) : w.cell? ⟨g, 0, none⟩ = some a0 ∧ w.cell? ⟨g, 1, none⟩ = some a1 ∧ w.cell? ⟨g, 2, none⟩ = some a2 ∧ w.cell? ⟨g, 3, none⟩ = some a3 ∧ w.cell? ⟨g, 4, none⟩ = some a4 ∧ w.cell? ⟨g, 5, none⟩ = some a5 ∧ w.cell? ⟨g, 6, none⟩ = some a6 ∧ w.cell? ⟨g, 7, none⟩ = some a7 ∧ w.cell? ⟨g, 8, none⟩ = some a8 ∧ w.frozen? ⟨g, 0, none⟩ = false ∧ w.frozen? ⟨g, 1, none⟩ = false ∧ w.frozen? ⟨g, 2, none⟩ = false ∧ w.frozen? ⟨g, 3, none⟩ = false ∧ w.frozen? ⟨g, 4, none⟩ = false ∧ w.frozen? ⟨g, 5, none⟩ = false ∧ w.frozen? ⟨g, 6, none⟩ = false ∧ w.frozen? ⟨g, 7, none⟩ = false ∧ w.frozen? ⟨g, 8, none⟩ = false :=
  ⟨(blk_cell h 0).trans rfl, (blk_cell h 1).trans rfl, (blk_cell h 2).trans rfl, (blk_cell h 3).trans rfl, (blk_cell h 4).trans rfl, (blk_cell h 5).trans rfl, (blk_cell h 6).trans rfl, (blk_cell h 7).trans rfl, (blk_cell h 8).trans rfl, blk_frozen h 0, blk_frozen h 1, blk_frozen h 2, blk_frozen h 3, blk_frozen h 4, blk_frozen h 5, blk_frozen h 6, blk_frozen h 7, blk_frozen h 8⟩
theorem zC9 {w : World} {g : Nat} {t : TypeId} {a0 a1 a2 a3 a4 a5 a6 a7 a8 : Value} (h : w.heap[g]? = some (.cells #[a0, a1, a2, a3, a4, a5, a6, a7, a8] t (0, 0))) : w.cell? ⟨g, 0, none⟩ = some a0 ∧ w.cell? ⟨g, 1, none⟩ = some a1 ∧ w.cell? ⟨g, 2, none⟩ = some a2 ∧ w.cell? ⟨g, 3, none⟩ = some a3 ∧ w.cell? ⟨g, 4, none⟩ = some a4 ∧ w.cell? ⟨g, 5, none⟩ = some a5 ∧ w.cell? ⟨g, 6, none⟩ = some a6 ∧ w.cell? ⟨g, 7, none⟩ = some a7 ∧ w.cell? ⟨g, 8, none⟩ = some a8 :=
  ⟨(blk_cell h 0).trans rfl, (blk_cell h 1).trans rfl, (blk_cell h 2).trans rfl, (blk_cell h 3).trans rfl, (blk_cell h 4).trans rfl, (blk_cell h 5).trans rfl, (blk_cell h 6).trans rfl, (blk_cell h 7).trans rfl, (blk_cell h 8).trans rfl⟩
/-- A box over stores to it and to others. -/
inductive StripB (G : Nat → Prop) (g : Nat) (w0 : World) (c0 : Array Value) : World → Array Value → Prop
  | refl : StripB G g w0 c0 w0 c0
  | alloc {w : World} {cs : Array Value} (h : StripB G g w0 c0 w cs) (o : Obj) : StripB G g w0 c0 (w.alloc o) cs
  | drew {w : World} {cs : Array Value} (h : StripB G g w0 c0 w cs) : StripB G g w0 c0 w.drew cs
  | drewN {w : World} {cs : Array Value} (h : StripB G g w0 c0 w cs) (m : Nat) : StripB G g w0 c0 (w.drewN m) cs
  | put {w : World} {cs : Array Value} {i : Nat} {u : Value} (h : StripB G g w0 c0 w cs) : StripB G g w0 c0 (w.setCell ⟨g, i, none⟩ u) (cs.setIfInBounds i u)
  | far {w : World} {cs : Array Value} {x : Nat} {j : Nat} {r : Option Nat} {u : Value} (h : StripB G g w0 c0 w cs) (hx : G x) : StripB G g w0 c0 (w.setCell ⟨x, j, r⟩ u) cs
theorem bpG {G : Nat → Prop} {g : Nat} {t : TypeId} {w0 w : World} {c0 cs : Array Value} (a : w0.heap[g]? = some (.cells c0 t (0, 0))) (hG : ∀ x, G x → g ≠ x) (s : StripB G g w0 c0 w cs) : w.heap[g]? = some (.cells cs t (0, 0)) := by
  induction s with
  | refl => exact a
  | alloc _ o ih => exact blk_alloc ih o
  | drew _ ih => exact blk_drew ih
  | drewN _ m ih => exact blk_drewN ih m
  | put _ ih => exact blk_set ih _ _
  | far _ hx ih => exact blk_far ih (hG _ hx) _
theorem bp0 {g : Nat} {t : TypeId} {w0 w : World} {c0 cs cs' : Array Value} (a : Aside0 (w0.heap[g]? = some (.cells c0 t (0, 0))))
    (s : StripB (fun _ => False) g w0 c0 w cs := by repeat (first | (with_reducible exact StripB.refl) | (with_reducible refine StripB.alloc ?_ _) | (with_reducible refine StripB.drewN ?_ _) | (with_reducible refine StripB.drew ?_) | (with_reducible refine StripB.put ?_))) (e : cs = cs' := by rfl) : w.heap[g]? = some (.cells cs' t (0, 0)) :=
  e ▸ bpG a.out (fun _ h => h.elim) s
theorem bp1 {g : Nat} {g1 : Nat} {t : TypeId} {w0 w : World} {c0 cs cs' : Array Value} (a : Aside0 (w0.heap[g]? = some (.cells c0 t (0, 0)))) (b1 : Aside0 (g ≠ g1))
    (s : StripB (fun x => x = g1) g w0 c0 w cs := by repeat (first | (with_reducible exact StripB.refl) | (with_reducible refine StripB.alloc ?_ _) | (with_reducible refine StripB.drewN ?_ _) | (with_reducible refine StripB.drew ?_) | (with_reducible refine StripB.put ?_) | (with_reducible refine StripB.far ?_ (by first | exact rfl | exact .inl rfl)))) (e : cs = cs' := by rfl) : w.heap[g]? = some (.cells cs' t (0, 0)) :=
  e ▸ bpG a.out (fun x (h : x = g1) => by subst h; exact b1.out) s
theorem bp2 {g : Nat} {g1 g2 : Nat} {t : TypeId} {w0 w : World} {c0 cs cs' : Array Value} (a : Aside0 (w0.heap[g]? = some (.cells c0 t (0, 0)))) (b1 : Aside0 (g ≠ g1)) (b2 : Aside0 (g ≠ g2))
    (s : StripB (fun x => x = g1 ∨ x = g2) g w0 c0 w cs := by repeat (first | (with_reducible exact StripB.refl) | (with_reducible refine StripB.alloc ?_ _) | (with_reducible refine StripB.drewN ?_ _) | (with_reducible refine StripB.drew ?_) | (with_reducible refine StripB.put ?_) | (with_reducible refine StripB.far ?_ (by first | exact rfl | exact .inl rfl | exact .inr (rfl))))) (e : cs = cs' := by rfl) : w.heap[g]? = some (.cells cs' t (0, 0)) :=
  e ▸ bpG a.out (fun x (h : x = g1 ∨ x = g2) => by rcases h with rfl | rfl <;> (first | exact b1.out | exact b2.out)) s
theorem bp3 {g : Nat} {g1 g2 g3 : Nat} {t : TypeId} {w0 w : World} {c0 cs cs' : Array Value} (a : Aside0 (w0.heap[g]? = some (.cells c0 t (0, 0)))) (b1 : Aside0 (g ≠ g1)) (b2 : Aside0 (g ≠ g2)) (b3 : Aside0 (g ≠ g3))
    (s : StripB (fun x => x = g1 ∨ x = g2 ∨ x = g3) g w0 c0 w cs := by repeat (first | (with_reducible exact StripB.refl) | (with_reducible refine StripB.alloc ?_ _) | (with_reducible refine StripB.drewN ?_ _) | (with_reducible refine StripB.drew ?_) | (with_reducible refine StripB.put ?_) | (with_reducible refine StripB.far ?_ (by first | exact rfl | exact .inl rfl | exact .inr (.inl rfl) | exact .inr (.inr (rfl)))))) (e : cs = cs' := by rfl) : w.heap[g]? = some (.cells cs' t (0, 0)) :=
  e ▸ bpG a.out (fun x (h : x = g1 ∨ x = g2 ∨ x = g3) => by rcases h with rfl | rfl | rfl <;> (first | exact b1.out | exact b2.out | exact b3.out)) s
theorem bp4 {g : Nat} {g1 g2 g3 g4 : Nat} {t : TypeId} {w0 w : World} {c0 cs cs' : Array Value} (a : Aside0 (w0.heap[g]? = some (.cells c0 t (0, 0)))) (b1 : Aside0 (g ≠ g1)) (b2 : Aside0 (g ≠ g2)) (b3 : Aside0 (g ≠ g3)) (b4 : Aside0 (g ≠ g4))
    (s : StripB (fun x => x = g1 ∨ x = g2 ∨ x = g3 ∨ x = g4) g w0 c0 w cs := by repeat (first | (with_reducible exact StripB.refl) | (with_reducible refine StripB.alloc ?_ _) | (with_reducible refine StripB.drewN ?_ _) | (with_reducible refine StripB.drew ?_) | (with_reducible refine StripB.put ?_) | (with_reducible refine StripB.far ?_ (by first | exact rfl | exact .inl rfl | exact .inr (.inl rfl) | exact .inr (.inr (.inl rfl)) | exact .inr (.inr (.inr (rfl))))))) (e : cs = cs' := by rfl) : w.heap[g]? = some (.cells cs' t (0, 0)) :=
  e ▸ bpG a.out (fun x (h : x = g1 ∨ x = g2 ∨ x = g3 ∨ x = g4) => by rcases h with rfl | rfl | rfl | rfl <;> (first | exact b1.out | exact b2.out | exact b3.out | exact b4.out)) s
theorem ks {u w0 w : World} {g : Nat} (a : Aside0 (KeepBut u w0 g none))
    (s : StripG (fun x => x = g) w0 w := by repeat (first | (with_reducible exact StripG.refl) | (with_reducible refine StripG.alloc ?_ _) | (with_reducible refine StripG.drewN ?_ _) | (with_reducible refine StripG.drew ?_) | (with_reducible refine StripG.set ?_ (by exact rfl)))) : KeepBut u w g none := by
  induction s with
  | refl => exact a.out
  | alloc _ o ih => exact keep_alloc ih o
  | drew _ ih => exact keep_drew ih
  | drewN _ m ih => exact keep_drewN ih m
  | set _ hg ih => obtain rfl := hg; exact KeepBut.set_ ih _ _
/-- Which operations came up: n of them, as bits. -/
def zL : Nat → Nat → List Bool
  | 0, _ => []
  | n + 1, m => (m % 2 == 1) :: zL n (m / 2)
def zA (n m : Nat) : Array Bool := ⟨zL n m⟩
theorem zP {P : Program} {md : Region.Mode} {ops : Array Oper} {Q : Exit → Act → World → Prop} {S : World → Prop} {ds : List Nat} {oi : Oper} {v : Value} {fuel : Nat} {l : Array Bool} {a a' : Act} {w : World} (i : Nat) (n : Tmp) (l' : Array Bool)
    (hc : PrintLast.anyB md ops l l' i = true) (h : PrintLast.wpAnyLast P md ops Q S ds fuel l' a' w) (hi : ops[i]? = some oi := by rfl) (hN : oi.dst = some n := by rfl)
    (hy : Yields P ops oi v a := by exact Or.inl ⟨by rfl, by intro w'; go_simp; with_reducible rfl⟩)
    (ha : a.put (some n) v = a' := by simp only [Act.put, List.setIfInBounds_toArray, List.set_cons_zero, List.set_cons_succ, i64_w, i32_w]; rfl)
    (hQ : ∀ c a w, Q (.panic c) (a.put oi.dst v) w → Q (.panic c) a w := by exact fun _ _ _ h => h) : PrintLast.wpAnyLast P md ops Q S ds (fuel + 1) l a w :=
  PrintLast.pure_ l' hi hN hc hQ hy ha h
theorem zG {P : Program} {ops : Array Oper} {Q : Exit → Act → World → Prop} {rest : List Oper} {oi : Oper} {a : Act} {w : World} (n : Tmp) {f : FuncId} {fn : Func} {as_ : Array Operand} {ts : Array TypeId} (hf : P.funcs[f]? = some fn) (args : Array Value)
    (h : Calls P f args w fun e w' => ∃ v, e = .returned v ∧ wpList P ops Q rest (a.put (some n) v) w') (hd : oi.dst = some n := by rfl) (hg : oi.guard = none := by rfl)
    (hname : (fn.name == "runtime.NumGoroutine") = false := by kernel_rfl) (hb : fn.body.isSome = true := by rfl) (hop : oi.op = .call { callee := .value (.func f), args := as_, argTypes := ts } := by rfl)
    (hargs : as_.map a.eval = args := by (try simp only [List.map_toArray, List.map_cons, List.map_nil]); first | done | rfl | (simp only [List.length_drop, List.length_take]; rfl)) : wpList P ops Q (oi :: rest) a w :=
  PrintLast.goesL_ (some n) hd hg hf hname hb args hop hargs h
theorem zX {P : Program} {ops : Array Oper} {Q : Exit → Act → World → Prop} {rest : List Oper} {o : Oper} {a : Act} {W : World} (n : Tmp) (cs : Array Value) (t : TypeId)
    (h : ∀ g, g = W.heap.size → ∀ w1, w1.heap[g]? = some (.cells cs t (0, 0)) → Below W.heap.size W w1 → wpList P ops Q rest (a.put o.dst (.pointer (some ⟨g, 0, none⟩))) w1)
    (hd : o.dst = some n := by rfl) (hgd : o.guard = none := by rfl)
    (hrun : (execOp a.eval o).run P W = .ok (.value (.pointer (some ⟨W.heap.size, 0, none⟩))) (W.alloc (.cells cs t (0, 0))) := by first | (go_simp; done) | (go_simp; rfl)) : wpList P ops Q (o :: rest) a W :=
  box_event hgd hd hrun h
end Go.Proofs.YtklkhnomnanpoaaW.PrintWords

namespace Go.Proofs.Ytklkhnomnanpoaa.PK
open Go.RowKit Go.Proofs.YtklkhnomnanpoaaW.PrintWords Go.Proofs.YtklkhnomnanpoaaW.PrintLast Go.Proofs.YtklkhnomnanpoaaW.PrintMore
attribute [local go_sem] max2_int min2_int max_two min_two max_three min_three max_four min_four
def errW : Option Int → Value
 | none=>.nilIface
 | some c=>.iface 0 (.int .i64 c)
theorem errW_none : errW none = .nilIface:=rfl
theorem errW_some (c : Int) : errW (some c) = .iface 0 (.int .i64 c):=rfl
theorem info3 : (Try.prog.info? 3).map (fun i=>(i.zero,i.size,i.bytes)) = some (some (.int .i64 0),1,8):=by kernel_rfl
theorem info5 : (Try.prog.info? 5).map (fun i=>(i.zero,i.size,i.bytes)) = some (some (.int .u8 0),1,1):=by kernel_rfl
theorem info56 : (Try.prog.info? 56).map (fun i=>(i.zero,i.size,i.bytes)) = some (some (.agg #[(.int .i64 0),(.int .i64 0),(.int .i64 0),(.string ⟨#[]⟩)]),4,40):=by kernel_rfl
theorem info83 : (Try.prog.info? 83).map (fun i=>(i.zero,i.size,i.bytes)) = some (some (.agg #[(.bool false),(.int .i64 0),(.slice none 0 0)]),3,40):=by kernel_rfl
theorem info89 : (Try.prog.info? 89).map (fun i=>(i.zero,i.size,i.bytes)) = some (some (.agg #[(.int .i64 0),(.int .i64 0)]),2,16):=by kernel_rfl
theorem info101 : (Try.prog.info? 101).map (fun i=>(i.zero,i.size,i.bytes)) = some (some (.agg #[(.int .i64 0),(.string ⟨#[]⟩)]),2,24):=by kernel_rfl
theorem info147 : (Try.prog.info? 147).map (fun i=>(i.zero,i.size,i.bytes)) = some (some (.agg #[(.bool false),(.slice none 0 0)]),2,32):=by kernel_rfl
-- the values' own types
structure S121 where
 f0 : Int
 f1 : Int
def z121 : S121:=⟨(0 : Int),(0 : Int)⟩
def k121 : Kd S121:=Kd.iso (Kd.pair (Kd.int .i64) (Kd.int .i64)) (fun x : S121=>(x.f0,x.f1))
theorem k121_open {w : World} {x : S121} {cs : List Value} (h : k121.K w x cs) : cs = [.int .i64 x.f0,.int .i64 x.f1]:=by
 obtain ⟨_,_,rfl,rfl,rfl⟩:=h;exact rfl
theorem k121_openM {w : World} {base : Nat} {ok : Nat → Prop} {x : S121} {cs : List Value} (h : k121.M w base ok x cs) : cs = [.int .i64 x.f0,.int .i64 x.f1]:=by
 obtain ⟨_,_,rfl,rfl,rfl⟩:=h;exact rfl
theorem k121_mk (w : World) (x : S121)  : k121.K w x [.int .i64 x.f0,.int .i64 x.f1]:=⟨[.int .i64 x.f0],[.int .i64 x.f1],rfl,rfl,rfl⟩
theorem k121_mkM (w : World) (base : Nat) (ok : Nat → Prop) (x : S121)  : k121.M w base ok x [.int .i64 x.f0,.int .i64 x.f1]:=⟨[.int .i64 x.f0],[.int .i64 x.f1],rfl,rfl,rfl⟩
theorem k121_mkF (W : World) (ok : Nat → Prop) (x : S121) : Kd.FK k121 W ok x [.int .i64 x.f0,.int .i64 x.f1]:=fun W2 _=>k121_mk W2 x
def rd_T121 (xs : List S121) (i : Int) : S121:=xs.getD i.toNat z121
theorem at_T121 {w : World} {A : Option Addr} {n : Nat} {xs : List S121} (h : Kd.C k121 w A n xs) (i : Int) (h0 : 0 ≤ i) (h1 : i < n) : ∃ ad ,A = some ad ∧ w.cell? (ad.add (i.toNat * 2)) = some (.int .i64 (rd_T121 xs i).f0) ∧ w.cell? ⟨(ad.add (i.toNat * 2)).block,(ad.add (i.toNat * 2)).off + 1,none⟩ = some (.int .i64 (rd_T121 xs i).f1):=by
 obtain ⟨ad,c,e,_,hK,hc0⟩:=Kd.C_get h z121 i h0 h1;have hc : ∀ j u,c[j]? = some u → w.cell? (ad.add (i.toNat * 2 + j)) = some u:=hc0;obtain rfl:=k121_open hK;exact ⟨ad,e,hc 0 _ rfl,by rw [← add_field _ _ 1 (by omega)];exact hc 1 _ rfl⟩
def rd_L3 (xs : List (List Int)) (i : Int) : (List Int):=xs.getD i.toNat ([] : List Int)
theorem at_L3 {w : World} {A : Option Addr} {n : Nat} {xs : List (List Int)} (h : Kd.C (Kd.slice 3 (Kd.int .i64)) w A n xs) (i : Int) (h0 : 0 ≤ i) (h1 : i < n) : ∃ ad A0 c0,A = some ad ∧ w.cell? (ad.add i.toNat) = some (.slice A0 (rd_L3 xs i).length c0) ∧ (rd_L3 xs i).length ≤ c0 ∧ (Kd.int .i64).C w A0 (rd_L3 xs i).length (rd_L3 xs i):=by
 obtain ⟨ad,c,e,_,hK,hc0⟩:=Kd.C_get h ([] : List Int) i h0 h1;have hc : ∀ j u,c[j]? = some u → w.cell? (ad.add (i.toNat * 1 + j)) = some u:=hc0;obtain ⟨A0,c0,rfl,l0,g0⟩:=hK;exact ⟨ad,A0,c0,e,by have hq:=hc 0 _ rfl;rwa [Nat.mul_one,Nat.add_zero] at hq,l0,g0⟩
structure S144 where
 f0 : Bool
 f1 : (List Int)
def z144 : S144:=⟨false,([] : List Int)⟩
def k144 : Kd S144:=Kd.iso (Kd.pair Kd.bool (Kd.slice 3 (Kd.int .i64))) (fun x : S144=>(x.f0,x.f1))
theorem k144_open {w : World} {x : S144} {cs : List Value} (h : k144.K w x cs) : ∃ A1 c1,cs = [.bool x.f0,.slice A1 x.f1.length c1] ∧ x.f1.length ≤ c1 ∧ (Kd.int .i64).C w A1 x.f1.length x.f1:=by
 obtain ⟨_,_,rfl,rfl,⟨A1,c1,rfl,l1,g1⟩⟩:=h;exact ⟨A1,c1,rfl,l1,g1⟩
theorem k144_openM {w : World} {base : Nat} {ok : Nat → Prop} {x : S144} {cs : List Value} (h : k144.M w base ok x cs) : ∃ v1,cs = [.bool x.f0,v1] ∧ (Kd.int .i64).R 3 w base ok v1 x.f1:=by
 obtain ⟨_,_,rfl,rfl,⟨v1,rfl,g1⟩⟩:=h;exact ⟨v1,rfl,g1⟩
theorem k144_mk (w : World) (x : S144) {A1 : Option Addr} {c1 : Nat} (l1 : x.f1.length ≤ c1) (g1 : (Kd.int .i64).C w A1 x.f1.length x.f1) : k144.K w x [.bool x.f0,.slice A1 x.f1.length c1]:=⟨[.bool x.f0],[.slice A1 x.f1.length c1],rfl,rfl,⟨A1,c1,rfl,l1,g1⟩⟩
theorem k144_mkM (w : World) (base : Nat) (ok : Nat → Prop) (x : S144) {v1 : Value} (g1 : (Kd.int .i64).R 3 w base ok v1 x.f1) : k144.M w base ok x [.bool x.f0,v1]:=⟨[.bool x.f0],[v1],rfl,rfl,⟨v1,rfl,g1⟩⟩
theorem k144_openF {W : World} {ok : Nat → Prop} {x : S144} {cs : List Value} (h : Kd.FK k144 W ok x cs) : ∃ A1 c1,cs = [.bool x.f0,.slice A1 x.f1.length c1] ∧ x.f1.length ≤ c1 ∧ Kd.F (Kd.int .i64) W ok A1 x.f1.length x.f1:=by
 obtain ⟨A1,c1,rfl,l1,_⟩:=k144_open (Kd.FK_now h);exact ⟨A1,c1,rfl,l1,(fun W' hW=>by obtain ⟨A1_,c1_,he,l1_,g1_⟩:=k144_open (h W' hW);injection (Option.some.inj (show some (Value.slice A1 x.f1.length c1) = some (Value.slice A1_ x.f1.length c1_) from congrArg (fun l=>l[1]?) he)) with ha_ _ _;rw [ha_];exact g1_)⟩
theorem k144_mkF (W : World) (ok : Nat → Prop) (x : S144) {A1 : Option Addr} {c1 : Nat} (l1 : x.f1.length ≤ c1) (g1 : Kd.F (Kd.int .i64) W ok A1 x.f1.length x.f1) : Kd.FK k144 W ok x [.bool x.f0,.slice A1 x.f1.length c1]:=fun W2 hW=>k144_mk W2 x l1 (g1 W2 hW)
def rd_T144 (xs : List S144) (i : Int) : S144:=xs.getD i.toNat z144
theorem at_T144 {w : World} {A : Option Addr} {n : Nat} {xs : List S144} (h : Kd.C k144 w A n xs) (i : Int) (h0 : 0 ≤ i) (h1 : i < n) : ∃ ad A1 c1,A = some ad ∧ w.cell? (ad.add (i.toNat * 2)) = some (.bool (rd_T144 xs i).f0) ∧ w.cell? ⟨(ad.add (i.toNat * 2)).block,(ad.add (i.toNat * 2)).off + 1,none⟩ = some (.slice A1 (rd_T144 xs i).f1.length c1) ∧ (rd_T144 xs i).f1.length ≤ c1 ∧ (Kd.int .i64).C w A1 (rd_T144 xs i).f1.length (rd_T144 xs i).f1:=by
 obtain ⟨ad,c,e,_,hK,hc0⟩:=Kd.C_get h z144 i h0 h1;have hc : ∀ j u,c[j]? = some u → w.cell? (ad.add (i.toNat * 2 + j)) = some u:=hc0;obtain ⟨A1,c1,rfl,l1,g1⟩:=k144_open hK;exact ⟨ad,A1,c1,e,hc 0 _ rfl,by rw [← add_field _ _ 1 (by omega)];exact hc 1 _ rfl,l1,g1⟩
structure S147 where
 f0 : Bool
 f1 : (List Int)
def z147 : S147:=⟨false,([] : List Int)⟩
def k147 : Kd S147:=Kd.iso (Kd.pair Kd.bool (Kd.slice 3 (Kd.int .i64))) (fun x : S147=>(x.f0,x.f1))
theorem k147_open {w : World} {x : S147} {cs : List Value} (h : k147.K w x cs) : ∃ A1 c1,cs = [.bool x.f0,.slice A1 x.f1.length c1] ∧ x.f1.length ≤ c1 ∧ (Kd.int .i64).C w A1 x.f1.length x.f1:=by
 obtain ⟨_,_,rfl,rfl,⟨A1,c1,rfl,l1,g1⟩⟩:=h;exact ⟨A1,c1,rfl,l1,g1⟩
theorem k147_openM {w : World} {base : Nat} {ok : Nat → Prop} {x : S147} {cs : List Value} (h : k147.M w base ok x cs) : ∃ v1,cs = [.bool x.f0,v1] ∧ (Kd.int .i64).R 3 w base ok v1 x.f1:=by
 obtain ⟨_,_,rfl,rfl,⟨v1,rfl,g1⟩⟩:=h;exact ⟨v1,rfl,g1⟩
theorem k147_mk (w : World) (x : S147) {A1 : Option Addr} {c1 : Nat} (l1 : x.f1.length ≤ c1) (g1 : (Kd.int .i64).C w A1 x.f1.length x.f1) : k147.K w x [.bool x.f0,.slice A1 x.f1.length c1]:=⟨[.bool x.f0],[.slice A1 x.f1.length c1],rfl,rfl,⟨A1,c1,rfl,l1,g1⟩⟩
theorem k147_mkM (w : World) (base : Nat) (ok : Nat → Prop) (x : S147) {v1 : Value} (g1 : (Kd.int .i64).R 3 w base ok v1 x.f1) : k147.M w base ok x [.bool x.f0,v1]:=⟨[.bool x.f0],[v1],rfl,rfl,⟨v1,rfl,g1⟩⟩
theorem k147_openF {W : World} {ok : Nat → Prop} {x : S147} {cs : List Value} (h : Kd.FK k147 W ok x cs) : ∃ A1 c1,cs = [.bool x.f0,.slice A1 x.f1.length c1] ∧ x.f1.length ≤ c1 ∧ Kd.F (Kd.int .i64) W ok A1 x.f1.length x.f1:=by
 obtain ⟨A1,c1,rfl,l1,_⟩:=k147_open (Kd.FK_now h);exact ⟨A1,c1,rfl,l1,(fun W' hW=>by obtain ⟨A1_,c1_,he,l1_,g1_⟩:=k147_open (h W' hW);injection (Option.some.inj (show some (Value.slice A1 x.f1.length c1) = some (Value.slice A1_ x.f1.length c1_) from congrArg (fun l=>l[1]?) he)) with ha_ _ _;rw [ha_];exact g1_)⟩
theorem k147_mkF (W : World) (ok : Nat → Prop) (x : S147) {A1 : Option Addr} {c1 : Nat} (l1 : x.f1.length ≤ c1) (g1 : Kd.F (Kd.int .i64) W ok A1 x.f1.length x.f1) : Kd.FK k147 W ok x [.bool x.f0,.slice A1 x.f1.length c1]:=fun W2 hW=>k147_mk W2 x l1 (g1 W2 hW)
def rd_T147 (xs : List S147) (i : Int) : S147:=xs.getD i.toNat z147
theorem at_T147 {w : World} {A : Option Addr} {n : Nat} {xs : List S147} (h : Kd.C k147 w A n xs) (i : Int) (h0 : 0 ≤ i) (h1 : i < n) : ∃ ad A1 c1,A = some ad ∧ w.cell? (ad.add (i.toNat * 2)) = some (.bool (rd_T147 xs i).f0) ∧ w.cell? ⟨(ad.add (i.toNat * 2)).block,(ad.add (i.toNat * 2)).off + 1,none⟩ = some (.slice A1 (rd_T147 xs i).f1.length c1) ∧ (rd_T147 xs i).f1.length ≤ c1 ∧ (Kd.int .i64).C w A1 (rd_T147 xs i).f1.length (rd_T147 xs i).f1:=by
 obtain ⟨ad,c,e,_,hK,hc0⟩:=Kd.C_get h z147 i h0 h1;have hc : ∀ j u,c[j]? = some u → w.cell? (ad.add (i.toNat * 2 + j)) = some u:=hc0;obtain ⟨A1,c1,rfl,l1,g1⟩:=k147_open hK;exact ⟨ad,A1,c1,e,hc 0 _ rfl,by rw [← add_field _ _ 1 (by omega)];exact hc 1 _ rfl,l1,g1⟩
structure S89 where
 f0 : Int
 f1 : Int
def z89 : S89:=⟨(0 : Int),(0 : Int)⟩
def k89 : Kd S89:=Kd.iso (Kd.pair (Kd.int .i64) (Kd.int .i64)) (fun x : S89=>(x.f0,x.f1))
theorem k89_open {w : World} {x : S89} {cs : List Value} (h : k89.K w x cs) : cs = [.int .i64 x.f0,.int .i64 x.f1]:=by
 obtain ⟨_,_,rfl,rfl,rfl⟩:=h;exact rfl
theorem k89_openM {w : World} {base : Nat} {ok : Nat → Prop} {x : S89} {cs : List Value} (h : k89.M w base ok x cs) : cs = [.int .i64 x.f0,.int .i64 x.f1]:=by
 obtain ⟨_,_,rfl,rfl,rfl⟩:=h;exact rfl
theorem k89_mk (w : World) (x : S89)  : k89.K w x [.int .i64 x.f0,.int .i64 x.f1]:=⟨[.int .i64 x.f0],[.int .i64 x.f1],rfl,rfl,rfl⟩
theorem k89_mkM (w : World) (base : Nat) (ok : Nat → Prop) (x : S89)  : k89.M w base ok x [.int .i64 x.f0,.int .i64 x.f1]:=⟨[.int .i64 x.f0],[.int .i64 x.f1],rfl,rfl,rfl⟩
theorem k89_mkF (W : World) (ok : Nat → Prop) (x : S89) : Kd.FK k89 W ok x [.int .i64 x.f0,.int .i64 x.f1]:=fun W2 _=>k89_mk W2 x
def rd_T89 (xs : List S89) (i : Int) : S89:=xs.getD i.toNat z89
theorem at_T89 {w : World} {A : Option Addr} {n : Nat} {xs : List S89} (h : Kd.C k89 w A n xs) (i : Int) (h0 : 0 ≤ i) (h1 : i < n) : ∃ ad ,A = some ad ∧ w.cell? (ad.add (i.toNat * 2)) = some (.int .i64 (rd_T89 xs i).f0) ∧ w.cell? ⟨(ad.add (i.toNat * 2)).block,(ad.add (i.toNat * 2)).off + 1,none⟩ = some (.int .i64 (rd_T89 xs i).f1):=by
 obtain ⟨ad,c,e,_,hK,hc0⟩:=Kd.C_get h z89 i h0 h1;have hc : ∀ j u,c[j]? = some u → w.cell? (ad.add (i.toNat * 2 + j)) = some u:=hc0;obtain rfl:=k89_open hK;exact ⟨ad,e,hc 0 _ rfl,by rw [← add_field _ _ 1 (by omega)];exact hc 1 _ rfl⟩
structure S176 where
 f0 : Int
 f1 : ByteArray
def z176 : S176:=⟨(0 : Int),(⟨#[]⟩ : ByteArray)⟩
def k176 : Kd S176:=Kd.iso (Kd.pair (Kd.int .i64) Kd.string) (fun x : S176=>(x.f0,x.f1))
theorem k176_open {w : World} {x : S176} {cs : List Value} (h : k176.K w x cs) : cs = [.int .i64 x.f0,.string x.f1]:=by
 obtain ⟨_,_,rfl,rfl,rfl⟩:=h;exact rfl
theorem k176_openM {w : World} {base : Nat} {ok : Nat → Prop} {x : S176} {cs : List Value} (h : k176.M w base ok x cs) : cs = [.int .i64 x.f0,.string x.f1]:=by
 obtain ⟨_,_,rfl,rfl,rfl⟩:=h;exact rfl
theorem k176_mk (w : World) (x : S176)  : k176.K w x [.int .i64 x.f0,.string x.f1]:=⟨[.int .i64 x.f0],[.string x.f1],rfl,rfl,rfl⟩
theorem k176_mkM (w : World) (base : Nat) (ok : Nat → Prop) (x : S176)  : k176.M w base ok x [.int .i64 x.f0,.string x.f1]:=⟨[.int .i64 x.f0],[.string x.f1],rfl,rfl,rfl⟩
theorem k176_mkF (W : World) (ok : Nat → Prop) (x : S176) : Kd.FK k176 W ok x [.int .i64 x.f0,.string x.f1]:=fun W2 _=>k176_mk W2 x
def rd_T176 (xs : List S176) (i : Int) : S176:=xs.getD i.toNat z176
theorem at_T176 {w : World} {A : Option Addr} {n : Nat} {xs : List S176} (h : Kd.C k176 w A n xs) (i : Int) (h0 : 0 ≤ i) (h1 : i < n) : ∃ ad ,A = some ad ∧ w.cell? (ad.add (i.toNat * 2)) = some (.int .i64 (rd_T176 xs i).f0) ∧ w.cell? ⟨(ad.add (i.toNat * 2)).block,(ad.add (i.toNat * 2)).off + 1,none⟩ = some (.string (rd_T176 xs i).f1):=by
 obtain ⟨ad,c,e,_,hK,hc0⟩:=Kd.C_get h z176 i h0 h1;have hc : ∀ j u,c[j]? = some u → w.cell? (ad.add (i.toNat * 2 + j)) = some u:=hc0;obtain rfl:=k176_open hK;exact ⟨ad,e,hc 0 _ rfl,by rw [← add_field _ _ 1 (by omega)];exact hc 1 _ rfl⟩
def rd_L9 (xs : List (List S176)) (i : Int) : (List S176):=xs.getD i.toNat ([] : List S176)
theorem at_L9 {w : World} {A : Option Addr} {n : Nat} {xs : List (List S176)} (h : Kd.C (Kd.slice 176 k176) w A n xs) (i : Int) (h0 : 0 ≤ i) (h1 : i < n) : ∃ ad A0 c0,A = some ad ∧ w.cell? (ad.add i.toNat) = some (.slice A0 (rd_L9 xs i).length c0) ∧ (rd_L9 xs i).length ≤ c0 ∧ k176.C w A0 (rd_L9 xs i).length (rd_L9 xs i):=by
 obtain ⟨ad,c,e,_,hK,hc0⟩:=Kd.C_get h ([] : List S176) i h0 h1;have hc : ∀ j u,c[j]? = some u → w.cell? (ad.add (i.toNat * 1 + j)) = some u:=hc0;obtain ⟨A0,c0,rfl,l0,g0⟩:=hK;exact ⟨ad,A0,c0,e,by have hq:=hc 0 _ rfl;rwa [Nat.mul_one,Nat.add_zero] at hq,l0,g0⟩
structure S129 where
 f0 : Bool
 f1 : Int
 f2 : (List S176)
def z129 : S129:=⟨false,(0 : Int),([] : List S176)⟩
def k129 : Kd S129:=Kd.iso (Kd.pair Kd.bool (Kd.pair (Kd.int .i64) (Kd.slice 176 k176))) (fun x : S129=>(x.f0,x.f1,x.f2))
theorem k129_open {w : World} {x : S129} {cs : List Value} (h : k129.K w x cs) : ∃ A2 c2,cs = [.bool x.f0,.int .i64 x.f1,.slice A2 x.f2.length c2] ∧ x.f2.length ≤ c2 ∧ k176.C w A2 x.f2.length x.f2:=by
 obtain ⟨_,_,rfl,rfl,⟨_,_,rfl,rfl,⟨A2,c2,rfl,l2,g2⟩⟩⟩:=h;exact ⟨A2,c2,rfl,l2,g2⟩
theorem k129_openM {w : World} {base : Nat} {ok : Nat → Prop} {x : S129} {cs : List Value} (h : k129.M w base ok x cs) : ∃ v2,cs = [.bool x.f0,.int .i64 x.f1,v2] ∧ k176.R 176 w base ok v2 x.f2:=by
 obtain ⟨_,_,rfl,rfl,⟨_,_,rfl,rfl,⟨v2,rfl,g2⟩⟩⟩:=h;exact ⟨v2,rfl,g2⟩
theorem k129_mk (w : World) (x : S129) {A2 : Option Addr} {c2 : Nat} (l2 : x.f2.length ≤ c2) (g2 : k176.C w A2 x.f2.length x.f2) : k129.K w x [.bool x.f0,.int .i64 x.f1,.slice A2 x.f2.length c2]:=⟨[.bool x.f0],[.int .i64 x.f1,.slice A2 x.f2.length c2],rfl,rfl,⟨[.int .i64 x.f1],[.slice A2 x.f2.length c2],rfl,rfl,⟨A2,c2,rfl,l2,g2⟩⟩⟩
theorem k129_mkM (w : World) (base : Nat) (ok : Nat → Prop) (x : S129) {v2 : Value} (g2 : k176.R 176 w base ok v2 x.f2) : k129.M w base ok x [.bool x.f0,.int .i64 x.f1,v2]:=⟨[.bool x.f0],[.int .i64 x.f1,v2],rfl,rfl,⟨[.int .i64 x.f1],[v2],rfl,rfl,⟨v2,rfl,g2⟩⟩⟩
theorem k129_openF {W : World} {ok : Nat → Prop} {x : S129} {cs : List Value} (h : Kd.FK k129 W ok x cs) : ∃ A2 c2,cs = [.bool x.f0,.int .i64 x.f1,.slice A2 x.f2.length c2] ∧ x.f2.length ≤ c2 ∧ Kd.F k176 W ok A2 x.f2.length x.f2:=by
 obtain ⟨A2,c2,rfl,l2,_⟩:=k129_open (Kd.FK_now h);exact ⟨A2,c2,rfl,l2,(fun W' hW=>by obtain ⟨A2_,c2_,he,l2_,g2_⟩:=k129_open (h W' hW);injection (Option.some.inj (show some (Value.slice A2 x.f2.length c2) = some (Value.slice A2_ x.f2.length c2_) from congrArg (fun l=>l[2]?) he)) with ha_ _ _;rw [ha_];exact g2_)⟩
theorem k129_mkF (W : World) (ok : Nat → Prop) (x : S129) {A2 : Option Addr} {c2 : Nat} (l2 : x.f2.length ≤ c2) (g2 : Kd.F k176 W ok A2 x.f2.length x.f2) : Kd.FK k129 W ok x [.bool x.f0,.int .i64 x.f1,.slice A2 x.f2.length c2]:=fun W2 hW=>k129_mk W2 x l2 (g2 W2 hW)
def rd_T129 (xs : List S129) (i : Int) : S129:=xs.getD i.toNat z129
theorem at_T129 {w : World} {A : Option Addr} {n : Nat} {xs : List S129} (h : Kd.C k129 w A n xs) (i : Int) (h0 : 0 ≤ i) (h1 : i < n) : ∃ ad A2 c2,A = some ad ∧ w.cell? (ad.add (i.toNat * 3)) = some (.bool (rd_T129 xs i).f0) ∧ w.cell? ⟨(ad.add (i.toNat * 3)).block,(ad.add (i.toNat * 3)).off + 1,none⟩ = some (.int .i64 (rd_T129 xs i).f1) ∧ w.cell? ⟨(ad.add (i.toNat * 3)).block,(ad.add (i.toNat * 3)).off + 2,none⟩ = some (.slice A2 (rd_T129 xs i).f2.length c2) ∧ (rd_T129 xs i).f2.length ≤ c2 ∧ k176.C w A2 (rd_T129 xs i).f2.length (rd_T129 xs i).f2:=by
 obtain ⟨ad,c,e,_,hK,hc0⟩:=Kd.C_get h z129 i h0 h1;have hc : ∀ j u,c[j]? = some u → w.cell? (ad.add (i.toNat * 3 + j)) = some u:=hc0;obtain ⟨A2,c2,rfl,l2,g2⟩:=k129_open hK;exact ⟨ad,A2,c2,e,hc 0 _ rfl,by rw [← add_field _ _ 1 (by omega)];exact hc 1 _ rfl,by rw [← add_field _ _ 2 (by omega)];exact hc 2 _ rfl,l2,g2⟩
structure S101 where
 f0 : Int
 f1 : ByteArray
def z101 : S101:=⟨(0 : Int),(⟨#[]⟩ : ByteArray)⟩
def k101 : Kd S101:=Kd.iso (Kd.pair (Kd.int .i64) Kd.string) (fun x : S101=>(x.f0,x.f1))
theorem k101_open {w : World} {x : S101} {cs : List Value} (h : k101.K w x cs) : cs = [.int .i64 x.f0,.string x.f1]:=by
 obtain ⟨_,_,rfl,rfl,rfl⟩:=h;exact rfl
theorem k101_openM {w : World} {base : Nat} {ok : Nat → Prop} {x : S101} {cs : List Value} (h : k101.M w base ok x cs) : cs = [.int .i64 x.f0,.string x.f1]:=by
 obtain ⟨_,_,rfl,rfl,rfl⟩:=h;exact rfl
theorem k101_mk (w : World) (x : S101)  : k101.K w x [.int .i64 x.f0,.string x.f1]:=⟨[.int .i64 x.f0],[.string x.f1],rfl,rfl,rfl⟩
theorem k101_mkM (w : World) (base : Nat) (ok : Nat → Prop) (x : S101)  : k101.M w base ok x [.int .i64 x.f0,.string x.f1]:=⟨[.int .i64 x.f0],[.string x.f1],rfl,rfl,rfl⟩
theorem k101_mkF (W : World) (ok : Nat → Prop) (x : S101) : Kd.FK k101 W ok x [.int .i64 x.f0,.string x.f1]:=fun W2 _=>k101_mk W2 x
def rd_T101 (xs : List S101) (i : Int) : S101:=xs.getD i.toNat z101
theorem at_T101 {w : World} {A : Option Addr} {n : Nat} {xs : List S101} (h : Kd.C k101 w A n xs) (i : Int) (h0 : 0 ≤ i) (h1 : i < n) : ∃ ad ,A = some ad ∧ w.cell? (ad.add (i.toNat * 2)) = some (.int .i64 (rd_T101 xs i).f0) ∧ w.cell? ⟨(ad.add (i.toNat * 2)).block,(ad.add (i.toNat * 2)).off + 1,none⟩ = some (.string (rd_T101 xs i).f1):=by
 obtain ⟨ad,c,e,_,hK,hc0⟩:=Kd.C_get h z101 i h0 h1;have hc : ∀ j u,c[j]? = some u → w.cell? (ad.add (i.toNat * 2 + j)) = some u:=hc0;obtain rfl:=k101_open hK;exact ⟨ad,e,hc 0 _ rfl,by rw [← add_field _ _ 1 (by omega)];exact hc 1 _ rfl⟩
def rd_L12 (xs : List (List S101)) (i : Int) : (List S101):=xs.getD i.toNat ([] : List S101)
theorem at_L12 {w : World} {A : Option Addr} {n : Nat} {xs : List (List S101)} (h : Kd.C (Kd.slice 101 k101) w A n xs) (i : Int) (h0 : 0 ≤ i) (h1 : i < n) : ∃ ad A0 c0,A = some ad ∧ w.cell? (ad.add i.toNat) = some (.slice A0 (rd_L12 xs i).length c0) ∧ (rd_L12 xs i).length ≤ c0 ∧ k101.C w A0 (rd_L12 xs i).length (rd_L12 xs i):=by
 obtain ⟨ad,c,e,_,hK,hc0⟩:=Kd.C_get h ([] : List S101) i h0 h1;have hc : ∀ j u,c[j]? = some u → w.cell? (ad.add (i.toNat * 1 + j)) = some u:=hc0;obtain ⟨A0,c0,rfl,l0,g0⟩:=hK;exact ⟨ad,A0,c0,e,by have hq:=hc 0 _ rfl;rwa [Nat.mul_one,Nat.add_zero] at hq,l0,g0⟩
structure S83 where
 f0 : Bool
 f1 : Int
 f2 : (List S101)
def z83 : S83:=⟨false,(0 : Int),([] : List S101)⟩
def k83 : Kd S83:=Kd.iso (Kd.pair Kd.bool (Kd.pair (Kd.int .i64) (Kd.slice 101 k101))) (fun x : S83=>(x.f0,x.f1,x.f2))
theorem k83_open {w : World} {x : S83} {cs : List Value} (h : k83.K w x cs) : ∃ A2 c2,cs = [.bool x.f0,.int .i64 x.f1,.slice A2 x.f2.length c2] ∧ x.f2.length ≤ c2 ∧ k101.C w A2 x.f2.length x.f2:=by
 obtain ⟨_,_,rfl,rfl,⟨_,_,rfl,rfl,⟨A2,c2,rfl,l2,g2⟩⟩⟩:=h;exact ⟨A2,c2,rfl,l2,g2⟩
theorem k83_openM {w : World} {base : Nat} {ok : Nat → Prop} {x : S83} {cs : List Value} (h : k83.M w base ok x cs) : ∃ v2,cs = [.bool x.f0,.int .i64 x.f1,v2] ∧ k101.R 101 w base ok v2 x.f2:=by
 obtain ⟨_,_,rfl,rfl,⟨_,_,rfl,rfl,⟨v2,rfl,g2⟩⟩⟩:=h;exact ⟨v2,rfl,g2⟩
theorem k83_mk (w : World) (x : S83) {A2 : Option Addr} {c2 : Nat} (l2 : x.f2.length ≤ c2) (g2 : k101.C w A2 x.f2.length x.f2) : k83.K w x [.bool x.f0,.int .i64 x.f1,.slice A2 x.f2.length c2]:=⟨[.bool x.f0],[.int .i64 x.f1,.slice A2 x.f2.length c2],rfl,rfl,⟨[.int .i64 x.f1],[.slice A2 x.f2.length c2],rfl,rfl,⟨A2,c2,rfl,l2,g2⟩⟩⟩
theorem k83_mkM (w : World) (base : Nat) (ok : Nat → Prop) (x : S83) {v2 : Value} (g2 : k101.R 101 w base ok v2 x.f2) : k83.M w base ok x [.bool x.f0,.int .i64 x.f1,v2]:=⟨[.bool x.f0],[.int .i64 x.f1,v2],rfl,rfl,⟨[.int .i64 x.f1],[v2],rfl,rfl,⟨v2,rfl,g2⟩⟩⟩
theorem k83_openF {W : World} {ok : Nat → Prop} {x : S83} {cs : List Value} (h : Kd.FK k83 W ok x cs) : ∃ A2 c2,cs = [.bool x.f0,.int .i64 x.f1,.slice A2 x.f2.length c2] ∧ x.f2.length ≤ c2 ∧ Kd.F k101 W ok A2 x.f2.length x.f2:=by
 obtain ⟨A2,c2,rfl,l2,_⟩:=k83_open (Kd.FK_now h);exact ⟨A2,c2,rfl,l2,(fun W' hW=>by obtain ⟨A2_,c2_,he,l2_,g2_⟩:=k83_open (h W' hW);injection (Option.some.inj (show some (Value.slice A2 x.f2.length c2) = some (Value.slice A2_ x.f2.length c2_) from congrArg (fun l=>l[2]?) he)) with ha_ _ _;rw [ha_];exact g2_)⟩
theorem k83_mkF (W : World) (ok : Nat → Prop) (x : S83) {A2 : Option Addr} {c2 : Nat} (l2 : x.f2.length ≤ c2) (g2 : Kd.F k101 W ok A2 x.f2.length x.f2) : Kd.FK k83 W ok x [.bool x.f0,.int .i64 x.f1,.slice A2 x.f2.length c2]:=fun W2 hW=>k83_mk W2 x l2 (g2 W2 hW)
def rd_T83 (xs : List S83) (i : Int) : S83:=xs.getD i.toNat z83
theorem at_T83 {w : World} {A : Option Addr} {n : Nat} {xs : List S83} (h : Kd.C k83 w A n xs) (i : Int) (h0 : 0 ≤ i) (h1 : i < n) : ∃ ad A2 c2,A = some ad ∧ w.cell? (ad.add (i.toNat * 3)) = some (.bool (rd_T83 xs i).f0) ∧ w.cell? ⟨(ad.add (i.toNat * 3)).block,(ad.add (i.toNat * 3)).off + 1,none⟩ = some (.int .i64 (rd_T83 xs i).f1) ∧ w.cell? ⟨(ad.add (i.toNat * 3)).block,(ad.add (i.toNat * 3)).off + 2,none⟩ = some (.slice A2 (rd_T83 xs i).f2.length c2) ∧ (rd_T83 xs i).f2.length ≤ c2 ∧ k101.C w A2 (rd_T83 xs i).f2.length (rd_T83 xs i).f2:=by
 obtain ⟨ad,c,e,_,hK,hc0⟩:=Kd.C_get h z83 i h0 h1;have hc : ∀ j u,c[j]? = some u → w.cell? (ad.add (i.toNat * 3 + j)) = some u:=hc0;obtain ⟨A2,c2,rfl,l2,g2⟩:=k83_open hK;exact ⟨ad,A2,c2,e,hc 0 _ rfl,by rw [← add_field _ _ 1 (by omega)];exact hc 1 _ rfl,by rw [← add_field _ _ 2 (by omega)];exact hc 2 _ rfl,l2,g2⟩
structure S47 where
 f0 : Int
 f1 : Int
 f2 : Int
 f3 : ByteArray
def z47 : S47:=⟨(0 : Int),(0 : Int),(0 : Int),(⟨#[]⟩ : ByteArray)⟩
def k47 : Kd S47:=Kd.iso (Kd.pair (Kd.int .i64) (Kd.pair (Kd.int .i64) (Kd.pair (Kd.int .i64) Kd.string))) (fun x : S47=>(x.f0,x.f1,x.f2,x.f3))
theorem k47_open {w : World} {x : S47} {cs : List Value} (h : k47.K w x cs) : cs = [.int .i64 x.f0,.int .i64 x.f1,.int .i64 x.f2,.string x.f3]:=by
 obtain ⟨_,_,rfl,rfl,⟨_,_,rfl,rfl,⟨_,_,rfl,rfl,rfl⟩⟩⟩:=h;exact rfl
theorem k47_openM {w : World} {base : Nat} {ok : Nat → Prop} {x : S47} {cs : List Value} (h : k47.M w base ok x cs) : cs = [.int .i64 x.f0,.int .i64 x.f1,.int .i64 x.f2,.string x.f3]:=by
 obtain ⟨_,_,rfl,rfl,⟨_,_,rfl,rfl,⟨_,_,rfl,rfl,rfl⟩⟩⟩:=h;exact rfl
theorem k47_mk (w : World) (x : S47)  : k47.K w x [.int .i64 x.f0,.int .i64 x.f1,.int .i64 x.f2,.string x.f3]:=⟨[.int .i64 x.f0],[.int .i64 x.f1,.int .i64 x.f2,.string x.f3],rfl,rfl,⟨[.int .i64 x.f1],[.int .i64 x.f2,.string x.f3],rfl,rfl,⟨[.int .i64 x.f2],[.string x.f3],rfl,rfl,rfl⟩⟩⟩
theorem k47_mkM (w : World) (base : Nat) (ok : Nat → Prop) (x : S47)  : k47.M w base ok x [.int .i64 x.f0,.int .i64 x.f1,.int .i64 x.f2,.string x.f3]:=⟨[.int .i64 x.f0],[.int .i64 x.f1,.int .i64 x.f2,.string x.f3],rfl,rfl,⟨[.int .i64 x.f1],[.int .i64 x.f2,.string x.f3],rfl,rfl,⟨[.int .i64 x.f2],[.string x.f3],rfl,rfl,rfl⟩⟩⟩
theorem k47_mkF (W : World) (ok : Nat → Prop) (x : S47) : Kd.FK k47 W ok x [.int .i64 x.f0,.int .i64 x.f1,.int .i64 x.f2,.string x.f3]:=fun W2 _=>k47_mk W2 x
def rd_T47 (xs : List S47) (i : Int) : S47:=xs.getD i.toNat z47
theorem at_T47 {w : World} {A : Option Addr} {n : Nat} {xs : List S47} (h : Kd.C k47 w A n xs) (i : Int) (h0 : 0 ≤ i) (h1 : i < n) : ∃ ad ,A = some ad ∧ w.cell? (ad.add (i.toNat * 4)) = some (.int .i64 (rd_T47 xs i).f0) ∧ w.cell? ⟨(ad.add (i.toNat * 4)).block,(ad.add (i.toNat * 4)).off + 1,none⟩ = some (.int .i64 (rd_T47 xs i).f1) ∧ w.cell? ⟨(ad.add (i.toNat * 4)).block,(ad.add (i.toNat * 4)).off + 2,none⟩ = some (.int .i64 (rd_T47 xs i).f2) ∧ w.cell? ⟨(ad.add (i.toNat * 4)).block,(ad.add (i.toNat * 4)).off + 3,none⟩ = some (.string (rd_T47 xs i).f3):=by
 obtain ⟨ad,c,e,_,hK,hc0⟩:=Kd.C_get h z47 i h0 h1;have hc : ∀ j u,c[j]? = some u → w.cell? (ad.add (i.toNat * 4 + j)) = some u:=hc0;obtain rfl:=k47_open hK;exact ⟨ad,e,hc 0 _ rfl,by rw [← add_field _ _ 1 (by omega)];exact hc 1 _ rfl,by rw [← add_field _ _ 2 (by omega)];exact hc 2 _ rfl,by rw [← add_field _ _ 3 (by omega)];exact hc 3 _ rfl⟩
structure S56 where
 f0 : Int
 f1 : Int
 f2 : Int
 f3 : ByteArray
def z56 : S56:=⟨(0 : Int),(0 : Int),(0 : Int),(⟨#[]⟩ : ByteArray)⟩
def k56 : Kd S56:=Kd.iso (Kd.pair (Kd.int .i64) (Kd.pair (Kd.int .i64) (Kd.pair (Kd.int .i64) Kd.string))) (fun x : S56=>(x.f0,x.f1,x.f2,x.f3))
theorem k56_open {w : World} {x : S56} {cs : List Value} (h : k56.K w x cs) : cs = [.int .i64 x.f0,.int .i64 x.f1,.int .i64 x.f2,.string x.f3]:=by
 obtain ⟨_,_,rfl,rfl,⟨_,_,rfl,rfl,⟨_,_,rfl,rfl,rfl⟩⟩⟩:=h;exact rfl
theorem k56_openM {w : World} {base : Nat} {ok : Nat → Prop} {x : S56} {cs : List Value} (h : k56.M w base ok x cs) : cs = [.int .i64 x.f0,.int .i64 x.f1,.int .i64 x.f2,.string x.f3]:=by
 obtain ⟨_,_,rfl,rfl,⟨_,_,rfl,rfl,⟨_,_,rfl,rfl,rfl⟩⟩⟩:=h;exact rfl
theorem k56_mk (w : World) (x : S56)  : k56.K w x [.int .i64 x.f0,.int .i64 x.f1,.int .i64 x.f2,.string x.f3]:=⟨[.int .i64 x.f0],[.int .i64 x.f1,.int .i64 x.f2,.string x.f3],rfl,rfl,⟨[.int .i64 x.f1],[.int .i64 x.f2,.string x.f3],rfl,rfl,⟨[.int .i64 x.f2],[.string x.f3],rfl,rfl,rfl⟩⟩⟩
theorem k56_mkM (w : World) (base : Nat) (ok : Nat → Prop) (x : S56)  : k56.M w base ok x [.int .i64 x.f0,.int .i64 x.f1,.int .i64 x.f2,.string x.f3]:=⟨[.int .i64 x.f0],[.int .i64 x.f1,.int .i64 x.f2,.string x.f3],rfl,rfl,⟨[.int .i64 x.f1],[.int .i64 x.f2,.string x.f3],rfl,rfl,⟨[.int .i64 x.f2],[.string x.f3],rfl,rfl,rfl⟩⟩⟩
theorem k56_mkF (W : World) (ok : Nat → Prop) (x : S56) : Kd.FK k56 W ok x [.int .i64 x.f0,.int .i64 x.f1,.int .i64 x.f2,.string x.f3]:=fun W2 _=>k56_mk W2 x
def rd_T56 (xs : List S56) (i : Int) : S56:=xs.getD i.toNat z56
theorem at_T56 {w : World} {A : Option Addr} {n : Nat} {xs : List S56} (h : Kd.C k56 w A n xs) (i : Int) (h0 : 0 ≤ i) (h1 : i < n) : ∃ ad ,A = some ad ∧ w.cell? (ad.add (i.toNat * 4)) = some (.int .i64 (rd_T56 xs i).f0) ∧ w.cell? ⟨(ad.add (i.toNat * 4)).block,(ad.add (i.toNat * 4)).off + 1,none⟩ = some (.int .i64 (rd_T56 xs i).f1) ∧ w.cell? ⟨(ad.add (i.toNat * 4)).block,(ad.add (i.toNat * 4)).off + 2,none⟩ = some (.int .i64 (rd_T56 xs i).f2) ∧ w.cell? ⟨(ad.add (i.toNat * 4)).block,(ad.add (i.toNat * 4)).off + 3,none⟩ = some (.string (rd_T56 xs i).f3):=by
 obtain ⟨ad,c,e,_,hK,hc0⟩:=Kd.C_get h z56 i h0 h1;have hc : ∀ j u,c[j]? = some u → w.cell? (ad.add (i.toNat * 4 + j)) = some u:=hc0;obtain rfl:=k56_open hK;exact ⟨ad,e,hc 0 _ rfl,by rw [← add_field _ _ 1 (by omega)];exact hc 1 _ rfl,by rw [← add_field _ _ 2 (by omega)];exact hc 2 _ rfl,by rw [← add_field _ _ 3 (by omega)];exact hc 3 _ rfl⟩
def laws_markIntS.l0 : Nat → List Int → Int → Int → Option (Int × List Int)
 | 0,_,_,_=>none
 | k + 1,x0,x1,x5=>if x5 < (x0.length : Int) then (if 0 ≤ x5 then (laws_markIntS.l0 k (x0.set (x5 : Int).toNat x1) (wrap64 (x1 + 1)) (wrap64 (x5 + 1))) else (none)) else (some (x1,x0))
def laws_markIntS.f (k : Nat) (l0 : List Int) (a1 : Int) : Option (Int × List Int):=laws_markIntS.l0 k l0 a1 0
theorem laws_markIntS.mono_l : ∀ k,(∀ y0 y1 y2,LeO (laws_markIntS.l0 k y0 y1 y2) (laws_markIntS.l0 (k + 1) y0 y1 y2))
 | 0=>fun _ _ _ r h=>by simp [laws_markIntS.l0] at h
 | k + 1=>by
  have ih0:=laws_markIntS.mono_l k;intro y0 y1 y2;unfold laws_markIntS.l0
  repeat' first
  | (with_reducible exact ih0 _ _ _)
  | (with_reducible exact LeO.refl _)
  | (with_reducible exact LeO.none _)
  | (with_reducible refine LeO.ite ?_ ?_)
  | (with_reducible refine LeO.bind ?_ (fun _=>?_))
  | exact ih0 _ _ _
  | exact LeO.none _
  | refine LeO.ite ?_ ?_
  | refine LeO.bind ?_ (fun _=>?_)
theorem laws_markIntS.mono : ∀ a0 a1 k,LeO (laws_markIntS.f k a0 a1) (laws_markIntS.f (k + 1) a0 a1):=by
 intro a0 a1 k;have ih0:=laws_markIntS.mono_l k;unfold laws_markIntS.f
 repeat' first
   | (with_reducible exact ih0 _ _ _)
   | (with_reducible exact LeO.refl _)
   | (with_reducible exact LeO.none _)
   | (with_reducible refine LeO.ite ?_ ?_)
   | (with_reducible refine LeO.bind ?_ (fun _=>?_))
   | exact ih0 _ _ _
   | exact LeO.none _
   | refine LeO.ite ?_ ?_
   | refine LeO.bind ?_ (fun _=>?_)
set_option maxHeartbeats 8000000 in
set_option maxRecDepth 100000 in
theorem laws_markIntS.calls (k : Nat) (P0_ : Nat → Prop) (u9000_ : Value) (l0 : List Int) (a1 : Int) (r1 : Int) (r2 : List Int) (w0 w : World) (hB : Below w0.heap.size w0 w) (ho0 : Kd.R (Kd.int .i64) 3 w w0.heap.size P0_ u9000_ l0) (h : laws_markIntS.f k l0 a1 = some (r1,r2)) :
  Calls Try.prog 15 #[u9000_,.int .i64 a1] w fun e w'=>e = .returned (.int .i64 r1) ∧ Kd.R (Kd.int .i64) 3 w' w0.heap.size (fun k_=>(P0_ k_ ∨ w.heap.size ≤ k_)) u9000_ r2 ∧ Below w0.heap.size w0 w' ∧ Kept w w' (fun k_=>P0_ k_):=by
 have HO0:=zMk (show Kd.R (Kd.int .i64) 3 w w0.heap.size (fun k_=>(P0_ k_ ∨ w.heap.size ≤ k_)) u9000_ l0 from Kd.R_mono ho0 (fun k_ hk=>(.inl hk)));have HK:=zMk (Kept.refl w (fun k_=>P0_ k_));have HW0:=zMk hB.size;have HB:=zMk hB;clear hB;have H : (laws_markIntS.l0 k l0 a1 0) = some (r1,r2):=h;clear h;have H':=zMk H;clear H
 go_enter Try.func15,Try.ntmps15
 go_wp2
 go_loopg [1,5] k (fun kq v1 v5 w'=>∃ (x0_1 : List Int) (x1_1 : Int) (x5_1 : Int),v1 = .int .i64 x1_1 ∧ v5 = .int .i64 x5_1 ∧ Aside0 (laws_markIntS.l0 kq x0_1 x1_1 x5_1 = some (r1,r2)) ∧ Aside0 (kq ≤ k) ∧ Aside0 (Kd.R (Kd.int .i64) 3 w' w0.heap.size (fun k_=>(P0_ k_ ∨ w.heap.size ≤ k_)) u9000_ x0_1) ∧ Aside0 (Kept w w' (fun k_=>P0_ k_)) ∧ Aside0 (Below w0.heap.size w0 w'));case atStart=>exact ⟨(l0),(a1),(0),(by first | rfl | (simp;done) | (simp [*];done)),(by first | rfl | (simp;done) | (simp [*];done)),H',⟨Nat.le_refl _⟩,⟨rs HO0⟩,⟨by repeat (first | (with_reducible first | exact HK.out | apply Kept.alloc | apply Kept.drewN | apply Kept.drew) | exact HK.out)⟩,⟨hs HB⟩⟩
 case round =>
  clear H'
  try clear c1
  try clear p2
  obtain ⟨x0_1,x1_1,x5_1,rfl,rfl,HA,HK1,HO_0,HK,HB⟩:=hrel;cases gk with
  | zero=>exact absurd HA.out (by simp [laws_markIntS.l0])
  | succ k1 =>
   have H:=HA.out;clear HA;simp only [laws_markIntS.l0] at H
   by_cases c3 : x5_1 < (x0_1.length : Int)
   ·rw [if_pos c3] at H;have c3b0 : decide (x5_1 < (x0_1.length : Int)) = true:=decide_eq_true c3;clear c3
    by_cases c4 : 0 ≤ x5_1
    ·rw [if_pos c4] at H;have c4b0 : decide (0 ≤ x5_1) = true:=decide_eq_true c4;clear c4;obtain ⟨y399,hy399⟩ : ∃ y_ : List Int,y_ = (x0_1.set (x5_1 : Int).toNat x1_1):=⟨_,rfl⟩;replace H : (laws_markIntS.l0 k1 y399 (wrap64 (x1_1 + 1)) (wrap64 (x5_1 + 1))) = some (r1,r2):=by first | (rw [hy399];with_reducible exact H) | (have H2_:=(Option.bind_some _ _).symm.trans H;rw [hy399];with_reducible exact H2_) | (have H2_:=(Option.bind_some _ _).symm.trans H;with_reducible exact H2_) | with_reducible exact H | (rw [hy399];exact H) | exact H
     have Ny399:=zMk hy399;clear hy399;have H':=zMk H;clear H;obtain ⟨Ao6,co6,eo6⟩:=Kd.R_slice HO_0.out;subst eo6;have p5 : 0 ≤ (x5_1 : Int):=zDe (by first | (with_reducible assumption) | assumption);have q5 : (x5_1 : Int) < ((x0_1.length : Int) : Int):=zDe (by first | (with_reducible assumption) | assumption);obtain ⟨go5,co5,eo5,gb5,gl5,cl5,HG5⟩:=Kd.R_form HO_0.out (by omega)
     (first | cases eo5 | (injection eo5 with ea_ en_ ec_;(first | subst ea_ | (injection ea_ with ea_;subst ea_));subst ec_;clear en_))
     have GB5:=zMk gb5;have GG5:=zMk HG5;clear gb5 gl5 HG5;have HMgo5:=zMk (show (P0_ go5 ∨ w.heap.size ≤ go5) from (HO_0.out.1 _ rfl));obtain ⟨hx5_0,hf5_0⟩:=Kd.R_celln 0 HO_0.out (x5_1 : Int) p5 q5;replace p5:=eq_true p5;replace q5:=eq_true q5;have HP7:=Kd.R_putg HO_0.out (x5_1 : Int) x1_1;go_wp2_with (first | ((with_reducible refine gate_store (t:=3) (p:=15) rfl ?_);refine store_event (t:=3) (p:=15) (v:=?vo_w8) (w1:=(wr.setCell ⟨go5,(x5_1 : Int).toNat,none⟩ (.int .i64 x1_1))) ?hg ?ho ?hn ?hr ?_;(case ho=>rfl);(case hg=>rfl);(case hn=>rfl);(case hr=>first | (go_simp;done) | (go_simp;rfl));intro w8 hw;have hg : wr.grownBy w8 (some go5):=(by rw [hw];exact HP7.2);have hp_ : Kd.R (Kd.int .i64) 3 w8 w0.heap.size (fun k_=>(P0_ k_ ∨ w.heap.size ≤ k_)) (.slice (some ⟨go5,0,none⟩) x0_1.length co6) y399:=(by rw [hw,Ny399.out];exact HP7.1);clear HP7;have n0_:=zMk (hp_);have n1_:=zMk ((by rw [hw];exact below_set (HB.out) GB5.out : Below w0.heap.size w0 w8));have n2_:=zMk (Kept.of_grown (S:=(fun k_=>P0_ k_)) hg (by repeat (first | (with_reducible first | exact HK.out | apply Kept.alloc | apply Kept.drewN | apply Kept.drew) | exact HK.out)) (fun k_ e_=>(HO_0.out.1 k_ e_)));clear HO_0;clear HB;clear HK;have HO_0:=n0_;have HB:=n1_;have HK:=n2_;clear n0_ n1_ n2_;clear hg hw hp_));go_roundg k1;case measure=>have:=HK1.out;omega
     case rel=>exact ⟨(y399),(wrap64 (x1_1 + 1)),(wrap64 (x5_1 + 1)),(by first | rfl | (simp;done) | (simp [*];done)),(by first | rfl | (simp;done) | (simp [*];done)),H',⟨by have:=HK1.out;omega⟩,⟨rs HO_0⟩,⟨by repeat (first | (with_reducible first | exact HK.out | apply Kept.alloc | apply Kept.drewN | apply Kept.drew) | exact HK.out)⟩,⟨hs HB⟩⟩
    rw [if_neg c4] at H;exact absurd H (by simp)
   rw [if_neg c3] at H;have c3b0 : decide (x5_1 < (x0_1.length : Int)) = false:=decide_eq_false c3;clear c3;simp only [Option.some.injEq,Prod.mk.injEq] at H;obtain ⟨rfl,rfl⟩:=H;obtain ⟨Ao9,co9,eo9⟩:=Kd.R_slice HO_0.out;subst eo9
   go_wp2
   go_ret
   exact ⟨by first | rfl | (simp [errW_none,errW_some] <;> rfl) | (simp [*,errW_none,errW_some] <;> rfl),rs HO_0,hs HB,by repeat (first | (with_reducible first | exact HK.out | apply Kept.alloc | apply Kept.drewN | apply Kept.drew) | exact HK.out)⟩
end Go.Proofs.Ytklkhnomnanpoaa.PK

namespace Go.Proofs.Ytklkhnomnanpoaa.PK
open Go.RowKit Go.Proofs.YtklkhnomnanpoaaW.PrintWords Go.Proofs.YtklkhnomnanpoaaW.PrintLast Go.Proofs.YtklkhnomnanpoaaW.PrintMore
def laws_markKnotS.l0 : Nat → List S147 → Int → Int → Option (Int × (List S147))
 | 0,_,_,_=>none
 | k + 1,x0,x1,x5=>if x5 < (x0.length : Int) then (if 0 ≤ x5 then ((some ((x0.set (x5 : Int).toNat (⟨(Int.tmod x1 3 == 0),(rd_T147 x0 x5).f1⟩ : S147)) : List S147)).bind fun y1=>((laws_markIntS.f k (rd_T147 y1 x5).f1 (wrap64 (x1 + 1))).bind fun b_=>(laws_markKnotS.l0 k (y1.set (x5 : Int).toNat (⟨(rd_T147 y1 x5).f0,b_.2⟩ : S147)) b_.1 (wrap64 (x5 + 1))))) else (none)) else (some (x1,x0))
def laws_markKnotS.f (k : Nat) (l0 : List S147) (a1 : Int) : Option (Int × (List S147)):=laws_markKnotS.l0 k l0 a1 0
theorem laws_markKnotS.mono_l : ∀ k,∀ y0 y1 y2,LeO (laws_markKnotS.l0 k y0 y1 y2) (laws_markKnotS.l0 (k + 1) y0 y1 y2)
 | 0=>fun _ _ _ r h=>by simp [laws_markKnotS.l0] at h
 | k + 1=>by
  have ih0:=laws_markKnotS.mono_l k;intro y0 y1 y2;unfold laws_markKnotS.l0;refine LeO.ite (LeO.ite ?_ (LeO.none _)) (LeO.refl _)
  repeat' first
   | (with_reducible exact ih0 _ _ _)
   | (with_reducible exact laws_markIntS.mono _ _ _)
   | (with_reducible exact LeO.refl _)
   | (with_reducible refine LeO.bind ?_ (fun _=>?_))
theorem laws_markKnotS.mono : ∀ a0 a1 k,LeO (laws_markKnotS.f k a0 a1) (laws_markKnotS.f (k + 1) a0 a1):=fun a0 a1 k=>laws_markKnotS.mono_l k _ _ _
set_option maxHeartbeats 8000000 in
set_option maxRecDepth 100000 in
theorem laws_markKnotS.calls (k : Nat) (P0_ : Nat → Prop) (u9000_ : Value) (l0 : List S147) (a1 : Int) (r1 : Int) (r2 : List S147) (w0 w : World) (hB : Below w0.heap.size w0 w) (ho0 : Kd.S k147 147 w w0.heap.size P0_ u9000_ l0) (h : laws_markKnotS.f k l0 a1 = some (r1,r2)) :
  Calls Try.prog 84 #[u9000_,.int .i64 a1] w fun e w'=>e = .returned (.int .i64 r1) ∧ Kd.S k147 147 w' w0.heap.size (fun k_=>(P0_ k_ ∨ w.heap.size ≤ k_)) u9000_ r2 ∧ Below w0.heap.size w0 w' ∧ Kept w w' (fun k_=>P0_ k_):=by
 have HO0:=zMk (show Kd.S k147 147 w w0.heap.size (fun k_=>(P0_ k_ ∨ w.heap.size ≤ k_)) u9000_ l0 from Kd.S_mono ho0 (fun k_ hk=>(.inl hk)));have HK:=zMk (Kept.refl w (fun k_=>P0_ k_));have HB:=zMk hB;clear hB ho0;have H':=zMk (show laws_markKnotS.l0 k l0 a1 0 = some (r1,r2) from h);clear h
 go_enter Try.func84,Try.ntmps84
 go_wp2
 go_loopg [1,5] k (fun kq v1 v5 w'=>∃ (x0_1 : List S147) (x1_1 : Int) (x5_1 : Int),v1 = .int .i64 x1_1 ∧ v5 = .int .i64 x5_1 ∧ Aside0 (laws_markKnotS.l0 kq x0_1 x1_1 x5_1 = some (r1,r2)) ∧ Aside0 (kq ≤ k) ∧ Aside0 (Kd.S k147 147 w' w0.heap.size (fun k_=>(P0_ k_ ∨ w.heap.size ≤ k_)) u9000_ x0_1) ∧ Aside0 (Kept w w' (fun k_=>P0_ k_)) ∧ Aside0 (Below w0.heap.size w0 w'));case atStart=>exact ⟨l0,a1,0,rfl,rfl,H',⟨Nat.le_refl _⟩,HO0,HK,HB⟩
 case round =>
  clear H';obtain ⟨x0_1,x1_1,x5_1,rfl,rfl,HA,HK1,HO_0,HK,HB⟩:=hrel;cases gk with
  | zero=>exact absurd HA.out (by simp [laws_markKnotS.l0])
  | succ k1 =>
   have H:=HA.out;clear HA;simp only [laws_markKnotS.l0] at H
   by_cases c3 : x5_1 < (x0_1.length : Int)
   ·rw [if_pos c3] at H;have c3b0 : decide (x5_1 < (x0_1.length : Int)) = true:=decide_eq_true c3
    by_cases c4 : 0 ≤ x5_1
    ·rw [if_pos c4] at H;have c4b0 : decide (0 ≤ x5_1) = true:=decide_eq_true c4;obtain ⟨y1,hy1⟩ : ∃ y_ : List S147,y_ = (x0_1.set (x5_1 : Int).toNat (⟨(Int.tmod x1_1 3 == 0),(rd_T147 x0_1 x5_1).f1⟩ : S147)):=⟨_,rfl⟩;replace H : ((laws_markIntS.f k1 (rd_T147 y1 x5_1).f1 (wrap64 (x1_1 + 1))).bind fun b_=>(laws_markKnotS.l0 k1 (y1.set (x5_1 : Int).toNat (⟨(rd_T147 y1 x5_1).f0,b_.2⟩ : S147)) b_.1 (wrap64 (x5_1 + 1)))) = some (r1,r2):=by rw [hy1];exact H
     have Ny1:=zMk hy1;clear hy1;obtain ⟨⟨t_,l_⟩,A0_,H⟩:=Option.bind_eq_some_iff.mp H;have A1:=zMk A0_;clear A0_;have H':=zMk (show laws_markKnotS.l0 k1 (y1.set (x5_1 : Int).toNat (⟨(rd_T147 y1 x5_1).f0,l_⟩ : S147)) t_ (wrap64 (x5_1 + 1)) = some (r1,r2) from H);clear H;obtain ⟨go5,co5,eo5,gb5,_,_⟩:=Kd.S_form HO_0.out (by omega);subst eo5;have GB5:=zMk gb5;clear gb5;have HM5:=zMk (show (P0_ go5 ∨ w.heap.size ≤ go5) from ((Kd.S_R HO_0.out).1 _ rfl));have p5:=eq_true c4;have q5:=eq_true c3;have P5:=zMk c4;have Q5:=zMk c3;clear c3 c4;obtain ⟨okia0,cea0,hcla0,hMa0,hcca0,hokia0,hHa0⟩:=Kd.S_lend HO_0.out z147 (x5_1 : Int) P5.out Q5.out;have hfra0:=(Kd.R_elem (Kd.S_R HO_0.out) z147 (x5_1 : Int) P5.out Q5.out).choose_spec.2.2.2;obtain ⟨vea0,rfl,gea0⟩:=k147_openM hMa0;have hxa0_0 : wr.cell? ⟨go5,(x5_1 : Int).toNat * 2,none⟩ = some (.bool (rd_T147 x0_1 x5_1).f0):=hcca0 0 _ rfl;have hfa0_0 : wr.frozen? ⟨go5,(x5_1 : Int).toNat * 2,none⟩ = false:=hfra0 0;have hxa0_1 : wr.cell? ⟨go5,(x5_1 : Int).toNat * 2 + 1,none⟩ = some vea0:=hcca0 1 _ rfl;have hfa0_1 : wr.frozen? ⟨go5,(x5_1 : Int).toNat * 2 + 1,none⟩ = false:=hfra0 1;clear hcla0 hMa0 hcca0 hfra0;clear hokia0 hHa0;have HP:=Kd.S_field HO_0.out z147 (x5_1 : Int) P5.out Q5.out 0 (.bool (Int.tmod x1_1 3 == 0)) (show 1 ≤ 2 from by decide) (x':=(⟨(Int.tmod x1_1 3 == 0),(rd_T147 x0_1 x5_1).f1⟩ : S147)) (fun okp c hM_=>by obtain ⟨v_,rfl,g_⟩:=k147_openM hM_;exact k147_mkM _ _ _ _ g_);have HP':=zMk HP;clear HP;go_wp2_with (first | ((with_reducible refine gate_store (t:=4) (p:=18) rfl ?_);refine store_event (t:=4) (p:=18) (v:=?vo0_) (w1:=(wr.setCell ⟨go5,(x5_1 : Int).toNat * 2,none⟩ (.bool (Int.tmod x1_1 3 == 0)))) ?hg ?ho ?hn ?hr ?_;(case ho=>rfl);(case hg=>rfl);(case hn=>rfl);(case hr=>first | (go_simp;done) | (go_simp;rfl));intro ws1 hw;have hg : wr.grownBy ws1 (some go5):=(by rw [hw];exact HP'.out.2);have n0_:=zMk (show Kd.S k147 147 ws1 w0.heap.size (fun k_=>(P0_ k_ ∨ w.heap.size ≤ k_)) (.slice (some ⟨go5,0,none⟩) x0_1.length co5) y1 from (by rw [hw,Ny1.out];exact HP'.out.1));have n1_:=zMk (show Below w0.heap.size w0 ws1 from (by rw [hw];exact below_set HB.out GB5.out));have n2_:=zMk (Kept.of_grown (S:=(fun k_=>P0_ k_)) hg HK.out (fun k_ e_=>(Kd.S_R HO_0.out).1 k_ e_));clear HO_0 HB HK HP';have HO_0:=n0_;have HB:=n1_;have HK:=n2_;clear n0_ n1_ n2_ hg hw;clear hxa0_0 hfa0_0 hxa0_1 hfa0_1;obtain ⟨okia1,cea1,hcla1,hMa1,hcca1,hokia1,hHa1⟩:=Kd.S_lend HO_0.out z147 (x5_1 : Int) P5.out Q5.out;have hfra1:=(Kd.R_elem (Kd.S_R HO_0.out) z147 (x5_1 : Int) P5.out Q5.out).choose_spec.2.2.2;obtain ⟨vea1,rfl,gea1⟩:=k147_openM hMa1;have hxa1_0 : ws1.cell? ⟨go5,(x5_1 : Int).toNat * 2,none⟩ = some (.bool (rd_T147 y1 x5_1).f0):=hcca1 0 _ rfl;have hfa1_0 : ws1.frozen? ⟨go5,(x5_1 : Int).toNat * 2,none⟩ = false:=hfra1 0;have hxa1_1 : ws1.cell? ⟨go5,(x5_1 : Int).toNat * 2 + 1,none⟩ = some vea1:=hcca1 1 _ rfl;have hfa1_1 : ws1.frozen? ⟨go5,(x5_1 : Int).toNat * 2 + 1,none⟩ = false:=hfra1 1;clear hcla1 hMa1 hcca1 hfra1;have HOK:=zMk hokia1;have HH:=zMk hHa1;have HG:=zMk (show Kd.R (Kd.int .i64) 3 ws1 w0.heap.size okia1 vea1 (rd_T147 y1 x5_1).f1 from gea1);clear hokia1 hHa1 gea1) | ((go_at_call 15);(with_reducible refine (laws_markIntS.calls k1 okia1 _ _ _ t_ l_ w0 _ HB.out HG.out A1.out).mono ?_);rintro e wz ⟨rfl,hR_,hB_,hK_⟩;have n0_:=zMk (show Kd.S k147 147 wz w0.heap.size (fun k_=>(P0_ k_ ∨ w.heap.size ≤ k_)) (.slice (some ⟨go5,0,none⟩) x0_1.length co5) (y1.set (x5_1 : Int).toNat (⟨(rd_T147 y1 x5_1).f0,l_⟩ : S147)) from Kd.S_called HH.out hK_ (k147_mkM _ _ _ (⟨(rd_T147 y1 x5_1).f0,l_⟩ : S147) hR_) (fun k_ hk=>.inr (Nat.le_trans HK.out.1 hk)));have n1_:=zMk hB_;have n2_:=zMk (Kept.then_ HK.out hK_ (fun k_ hk=>(HOK.out k_ hk).1));clear HO_0 HB HK;have HO_0:=n0_;have HB:=n1_;have HK:=n2_;clear n0_ n1_ n2_ hR_ hB_ hK_ HH HG HOK));go_roundg k1;case measure=>have:=HK1.out;omega
     case rel=>exact ⟨_,_,_,rfl,rfl,H',⟨by have:=HK1.out;omega⟩,HO_0,HK,HB⟩
    rw [if_neg c4] at H;exact absurd H (by simp)
   rw [if_neg c3] at H;have c3b0 : decide (x5_1 < (x0_1.length : Int)) = false:=decide_eq_false c3;clear c3;simp only [Option.some.injEq,Prod.mk.injEq] at H;obtain ⟨rfl,rfl⟩:=H;obtain ⟨Ao18,co18,eo18⟩:=Kd.S_slice HO_0.out;subst eo18
   go_wp2
   go_ret
   exact ⟨rfl,HO_0.out,HB.out,HK.out⟩
end Go.Proofs.Ytklkhnomnanpoaa.PK

namespace Go.Proofs.Ytklkhnomnanpoaa.PK
open Go.RowKit Go.Proofs.YtklkhnomnanpoaaW.PrintWords Go.Proofs.YtklkhnomnanpoaaW.PrintLast Go.Proofs.YtklkhnomnanpoaaW.PrintMore
attribute [local go_sem] max2_int min2_int max_two min_two max_three min_three max_four min_four
def laws_markArena.f (k : Nat) (l0_0 : List (S147)) (a1 : Int) : Option (Int × (List (S147))):=((laws_markKnotS.f k l0_0 a1).bind fun b0=>(some (b0.1,b0.2)))
theorem laws_markArena.mono : ∀ a0 a1 k,LeO (laws_markArena.f k a0 a1) (laws_markArena.f (k + 1) a0 a1):=by
 intro a0 a1 k;unfold laws_markArena.f
 repeat' first
   | (with_reducible exact laws_markKnotS.mono _ _ _)
   | (with_reducible exact LeO.refl _)
   | (with_reducible exact LeO.none _)
   | (with_reducible refine LeO.ite ?_ ?_)
   | (with_reducible refine LeO.bind ?_ (fun _=>?_))
   | exact laws_markKnotS.mono _ _ _
   | exact LeO.none _
   | refine LeO.ite ?_ ?_
   | refine LeO.bind ?_ (fun _=>?_)
set_option maxHeartbeats 8000000 in
set_option maxRecDepth 100000 in
theorem laws_markArena.calls (k : Nat) (P0_0_ : Nat → Prop) (u0_0_ : Value) (l0_0 : List (S147)) (a1 : Int) (r1 : Int) (r2 : List (S147)) (w0 w : World) (hB : Below w0.heap.size w0 w) (ho0_0 : Kd.S k147 147 w w0.heap.size P0_0_ u0_0_ l0_0) (h : laws_markArena.f k l0_0 a1 = some (r1,r2)) :
  Calls Try.prog 53 #[.agg #[u0_0_],.int .i64 a1] w fun e w'=>e = .returned (.int .i64 r1) ∧ Kd.S k147 147 w' w0.heap.size (fun k_=>(P0_0_ k_ ∨ w.heap.size ≤ k_)) u0_0_ r2 ∧ Below w0.heap.size w0 w' ∧ Kept w w' (fun k_=>P0_0_ k_):=by
 have HZ0_0:=zMk (Kd.S_mono (ok':=fun k_=>(P0_0_ k_ ∧ k_ < w.heap.size)) (Kd.S_bound ho0_0) (fun k_ hk_=>⟨hk_.1,hk_.2.2.1⟩));clear ho0_0;have HB:=zMk hB;clear hB;have HK:=zMk (Kept.refl w (fun k_=>P0_0_ k_));have HL:=zMk (Nat.le_refl w.heap.size);have H : ((laws_markKnotS.f k l0_0 a1).bind fun b0=>(some (b0.1,b0.2))) = some (r1,r2):=h;clear h;replace H:=Option.bind_eq_some_iff.mp H;obtain ⟨⟨t3,t4⟩,Fa00,H⟩:=H;replace H : (some (t3,t4)) = some (r1,r2):=H;have Fa0:=zMk Fa00;clear Fa00;have H2:=Option.some.inj H;simp only [Prod.mk.injEq] at H2;obtain ⟨rfl,rfl⟩:=H2
 go_enter Try.func53,Try.ntmps53
 go_wp2_with (first | ((with_reducible refine gate_dst (N:=2) rfl ?_);refine box_event ?hg (N:=2) ?hd (cs:=#[u0_0_]) (t:=34) ?hr ?_;(case hd=>rfl);(case hg=>rfl);(case hr=>first | (go_simp;done) | (go_simp;rfl));intro gb1 hg w1 hbox hb;replace HZ0_0:=zMk (Kd.S_below HZ0_0.out hb);have GBK1:=zMk (show gb1 = w.heap.size ∧ gb1 < w1.heap.size from ⟨hg,blk_lt hbox⟩);have GW1:=zMk (show w0.heap.size ≤ gb1 by have q_:=below_size HB.out;rw [hg];exact q_);have BK1:=zMk hbox;replace HK:=zMk (Kept.below HK.out hb);replace HB:=zMk (below_then HB.out HB.out.size hb);replace HL:=zMk (And.intro HL.out (below_size hb));clear hb hbox hg;have hcz2 : w1.cell? ⟨gb1,0,none⟩ = some (u0_0_):=(zCl BK1.out 0).trans rfl;have hfz3:=zFr BK1.out 0) | ((with_reducible refine gate_callee (f:=84) rfl ?_);refine goesL_ (some 8) rfl rfl Try.func84 (by kernel_rfl) rfl #[u0_0_,.int .i64 a1] rfl (by (try simp only [List.map_toArray,List.map_cons,List.map_nil]);first | done | rfl | (simp only [List.length_drop,List.length_take];rfl)) ?_;(with_reducible refine (laws_markKnotS.calls k (fun k_=>(P0_0_ k_ ∧ k_ < w.heap.size)) _ l0_0 a1 t3 t4 w0 _ HB.out HZ0_0.out Fa0.out).mono ?_);rintro e w4 ⟨rfl,hy0,hb0,hk⟩;refine ⟨_,rfl,?_⟩;have ny0_:=zMk (Kd.S_mono (ok':=fun k_=>((P0_0_ k_ ∧ k_ < w.heap.size) ∨ (w1.heap.size ≤ k_ ∧ k_ < w4.heap.size))) (Kd.S_bound hy0) (fun k_ hk_=>hk_.1.imp id (fun h_=>⟨h_,hk_.2.2.1⟩)));replace BK1:=zMk (blk_kept BK1.out hk (fun hs_=>by have q_:=HL.out;have g_:=GBK1.out;have hs2_ : (P0_0_ gb1 ∧ gb1 < w.heap.size):=hs_;omega));replace HZ0_0:=ny0_;clear ny0_;replace HK:=zMk (Kept.then_ HK.out hk (fun k_ hs_=>by have q_:=HL.out;have h_ : (P0_0_ k_ ∧ k_ < w.heap.size):=hs_;first | (first | exact .inl h_.1 | exact .inl (.inl h_.1) | exact .inl (.inr h_.1) | exact .inr (by omega)) | (rcases h_ with h_ | h_ <;> first | exact .inl h_.1 | exact .inl (.inl h_.1) | exact .inl (.inr h_.1) | exact .inr (by omega))));replace HB:=zMk hb0;replace HL:=zMk (And.intro HL.out hk.1);clear hb0 hk hy0;clear hcz2 hfz3;have hcz5 : w4.cell? ⟨gb1,0,none⟩ = some (u0_0_):=(zCl BK1.out 0).trans rfl;have hfz6:=zFr BK1.out 0))
 go_ret
 exact ⟨rfl,Kd.S_mono (ok':=fun k_=>(P0_0_ k_ ∨ w.heap.size ≤ k_)) HZ0_0.out (fun k_ hk_=>by have q_:=HL.out;have h_ : ((P0_0_ k_ ∧ k_ < w.heap.size) ∨ (w1.heap.size ≤ k_ ∧ k_ < w4.heap.size)):=hk_;first | (first | exact .inl h_.1 | exact .inl (.inl h_.1) | exact .inl (.inr h_.1) | exact .inr (by omega)) | (rcases h_ with h_ | h_ <;> first | exact .inl h_.1 | exact .inl (.inl h_.1) | exact .inl (.inr h_.1) | exact .inr (by omega))),HB.out,HK.out⟩
def laws_markVolS.l0 : Nat → List (S89) → Int → Int → Option (Int × (List (S89)))
 | 0,_,_,_=>none
 | k + 1,x0,x1,x5=>if x5 < (x0.length : Int) then (if 0 ≤ x5 then ((some (x0.set (x5 : Int).toNat (⟨x1,(rd_T89 x0 x5).f1⟩ : S89) : List (S89))).bind fun y397=>(laws_markVolS.l0 k (y397.set (x5 : Int).toNat (⟨(rd_T89 y397 x5).f0,wrap64 (x1 + 1)⟩ : S89)) (wrap64 ((wrap64 (x1 + 1)) + 1)) (wrap64 (x5 + 1)))) else (none)) else (some (x1,x0))
def laws_markVolS.f (k : Nat) (l0 : List (S89)) (a1 : Int) : Option (Int × (List (S89))):=laws_markVolS.l0 k l0 a1 0
theorem laws_markVolS.mono_l : ∀ k,(∀ y0 y1 y2,LeO (laws_markVolS.l0 k y0 y1 y2) (laws_markVolS.l0 (k + 1) y0 y1 y2))
 | 0=>fun _ _ _ r h=>by simp [laws_markVolS.l0] at h
 | k + 1=>by
  have ih0:=laws_markVolS.mono_l k;intro y0 y1 y2;unfold laws_markVolS.l0
  repeat' first
  | (with_reducible exact ih0 _ _ _)
  | (with_reducible exact LeO.refl _)
  | (with_reducible exact LeO.none _)
  | (with_reducible refine LeO.ite ?_ ?_)
  | (with_reducible refine LeO.bind ?_ (fun _=>?_))
  | exact ih0 _ _ _
  | exact LeO.none _
  | refine LeO.ite ?_ ?_
  | refine LeO.bind ?_ (fun _=>?_)
theorem laws_markVolS.mono : ∀ a0 a1 k,LeO (laws_markVolS.f k a0 a1) (laws_markVolS.f (k + 1) a0 a1):=by
 intro a0 a1 k;have ih0:=laws_markVolS.mono_l k;unfold laws_markVolS.f
 repeat' first
   | (with_reducible exact ih0 _ _ _)
   | (with_reducible exact LeO.refl _)
   | (with_reducible exact LeO.none _)
   | (with_reducible refine LeO.ite ?_ ?_)
   | (with_reducible refine LeO.bind ?_ (fun _=>?_))
   | exact ih0 _ _ _
   | exact LeO.none _
   | refine LeO.ite ?_ ?_
   | refine LeO.bind ?_ (fun _=>?_)
set_option maxHeartbeats 8000000 in
set_option maxRecDepth 100000 in
theorem laws_markVolS.calls (k : Nat) (P0_ : Nat → Prop) (u9000_ : Value) (l0 : List (S89)) (a1 : Int) (r1 : Int) (r2 : List (S89)) (w0 w : World) (hB : Below w0.heap.size w0 w) (ho0 : Kd.R k89 89 w w0.heap.size P0_ u9000_ l0) (h : laws_markVolS.f k l0 a1 = some (r1,r2)) :
  Calls Try.prog 52 #[u9000_,.int .i64 a1] w fun e w'=>e = .returned (.int .i64 r1) ∧ Kd.R k89 89 w' w0.heap.size (fun k_=>(P0_ k_ ∨ w.heap.size ≤ k_)) u9000_ r2 ∧ Below w0.heap.size w0 w' ∧ Kept w w' (fun k_=>P0_ k_):=by
 have HO0:=zMk (show Kd.R k89 89 w w0.heap.size (fun k_=>(P0_ k_ ∨ w.heap.size ≤ k_)) u9000_ l0 from Kd.R_mono ho0 (fun k_ hk=>(.inl hk)));have HK:=zMk (Kept.refl w (fun k_=>P0_ k_));have HW0:=zMk hB.size;have HB:=zMk hB;clear hB;have H : (laws_markVolS.l0 k l0 a1 0) = some (r1,r2):=h;clear h;have H':=zMk H;clear H
 go_enter Try.func52,Try.ntmps52
 go_wp2
 go_loopg [1,5] k (fun kq v1 v5 w'=>∃ (x0_1 : List (S89)) (x1_1 : Int) (x5_1 : Int),v1 = .int .i64 x1_1 ∧ v5 = .int .i64 x5_1 ∧ Aside0 (laws_markVolS.l0 kq x0_1 x1_1 x5_1 = some (r1,r2)) ∧ Aside0 (kq ≤ k) ∧ Aside0 (Kd.R k89 89 w' w0.heap.size (fun k_=>(P0_ k_ ∨ w.heap.size ≤ k_)) u9000_ x0_1) ∧ Aside0 (Kept w w' (fun k_=>P0_ k_)) ∧ Aside0 (Below w0.heap.size w0 w'));case atStart=>exact ⟨(l0),(a1),(0),(by first | rfl | (simp;done) | (simp [*];done)),(by first | rfl | (simp;done) | (simp [*];done)),H',⟨Nat.le_refl _⟩,⟨rs HO0⟩,⟨by repeat (first | (with_reducible first | exact HK.out | apply Kept.alloc | apply Kept.drewN | apply Kept.drew) | exact HK.out)⟩,⟨hs HB⟩⟩
 case round =>
  clear H'
  try clear p2
  obtain ⟨x0_1,x1_1,x5_1,rfl,rfl,HA,HK1,HO_0,HK,HB⟩:=hrel;cases gk with
  | zero=>exact absurd HA.out (by simp [laws_markVolS.l0])
  | succ k1 =>
   have H:=HA.out;clear HA;simp only [laws_markVolS.l0] at H
   by_cases c3 : x5_1 < (x0_1.length : Int)
   ·rw [if_pos c3] at H;have c3b0 : decide (x5_1 < (x0_1.length : Int)) = true:=decide_eq_true c3;clear c3
    by_cases c4 : 0 ≤ x5_1
    ·rw [if_pos c4] at H;have c4b0 : decide (0 ≤ x5_1) = true:=decide_eq_true c4;clear c4;obtain ⟨y397,hy397⟩ : ∃ y_ : List (S89),y_ = (x0_1.set (x5_1 : Int).toNat (⟨x1_1,(rd_T89 x0_1 x5_1).f1⟩ : S89)):=⟨_,rfl⟩;replace H : (laws_markVolS.l0 k1 (y397.set (x5_1 : Int).toNat (⟨(rd_T89 y397 x5_1).f0,wrap64 (x1_1 + 1)⟩ : S89)) (wrap64 ((wrap64 (x1_1 + 1)) + 1)) (wrap64 (x5_1 + 1))) = some (r1,r2):=by first | (rw [hy397];with_reducible exact H) | (have H2_:=(Option.bind_some _ _).symm.trans H;rw [hy397];with_reducible exact H2_) | (have H2_:=(Option.bind_some _ _).symm.trans H;with_reducible exact H2_) | with_reducible exact H | (rw [hy397];exact H) | exact H
     have Ny397:=zMk hy397;clear hy397;obtain ⟨y398,hy398⟩ : ∃ y_ : List (S89),y_ = (y397.set (x5_1 : Int).toNat (⟨(rd_T89 y397 x5_1).f0,wrap64 (x1_1 + 1)⟩ : S89)):=⟨_,rfl⟩;replace H : (laws_markVolS.l0 k1 y398 (wrap64 ((wrap64 (x1_1 + 1)) + 1)) (wrap64 (x5_1 + 1))) = some (r1,r2):=by first | (rw [hy398];with_reducible exact H) | (have H2_:=(Option.bind_some _ _).symm.trans H;rw [hy398];with_reducible exact H2_) | (have H2_:=(Option.bind_some _ _).symm.trans H;with_reducible exact H2_) | with_reducible exact H | (rw [hy398];exact H) | exact H
     have Ny398:=zMk hy398;clear hy398;have H':=zMk H;clear H;obtain ⟨Ao7,co7,eo7⟩:=Kd.R_slice HO_0.out;subst eo7;have p5 : 0 ≤ (x5_1 : Int):=zDe (by first | (with_reducible assumption) | assumption);have q5 : (x5_1 : Int) < ((x0_1.length : Int) : Int):=zDe (by first | (with_reducible assumption) | assumption);obtain ⟨go5,co5,eo5,gb5,gl5,cl5,HG5⟩:=Kd.R_form HO_0.out (by omega)
     (first | cases eo5 | (injection eo5 with ea_ en_ ec_;(first | subst ea_ | (injection ea_ with ea_;subst ea_));subst ec_;clear en_))
     have GB5:=zMk gb5;have GG5:=zMk HG5;clear gb5 gl5 HG5;have HMgo5:=zMk (show (P0_ go5 ∨ w.heap.size ≤ go5) from (HO_0.out.1 _ rfl));obtain ⟨ce5,hcl5,hM5,hcc5,hfr5⟩:=Kd.R_elem HO_0.out z89 (x5_1 : Int) p5 q5;obtain rfl:=k89_openM hM5;have hx5_0 : wr.cell? ⟨go5,(x5_1 : Int).toNat * 2,none⟩ = some (.int .i64 ((rd_T89 x0_1 x5_1).f0)):=hcc5 0 _ rfl;have hx5_1 : wr.cell? ⟨go5,(x5_1 : Int).toNat * 2 + 1,none⟩ = some (.int .i64 ((rd_T89 x0_1 x5_1).f1)):=hcc5 1 _ rfl;have hf5_0 : wr.frozen? ⟨go5,(x5_1 : Int).toNat * 2,none⟩ = false:=hfr5 0;have hf5_1 : wr.frozen? ⟨go5,(x5_1 : Int).toNat * 2 + 1,none⟩ = false:=hfr5 1;clear hcl5 hcc5 hfr5 hM5;replace p5:=eq_true p5;replace q5:=eq_true q5;have HX8:=zMk (show Kd.R k89 89 wr w0.heap.size (fun k_=>(P0_ k_ ∨ w.heap.size ≤ k_)) (.slice (some ⟨go5,0,none⟩) x0_1.length co7) x0_1 from (rs HO_0));obtain ⟨ce8,hcl8,hM8,hcc8,hfr8⟩:=Kd.R_elem HX8.out z89 (x5_1 : Int) (zDe (by first | (with_reducible assumption) | assumption)) (by have h_ : (x5_1 : Int) < ((x0_1.length : Int) : Int):=zDe (by first | (with_reducible assumption) | assumption);first | exact h_ | (have e_:=(Kd.R_reads' HO_0.out).1;omega) | simpa using h_);obtain rfl:=k89_openM hM8;have HP8:=Kd.R_seg HX8.out (x5_1 : Int) (zDe (by first | (with_reducible assumption) | assumption)) (by have h_ : (x5_1 : Int) < ((x0_1.length : Int) : Int):=zDe (by first | (with_reducible assumption) | assumption);first | exact h_ | (have e_:=(Kd.R_reads' HO_0.out).1;omega) | simpa using h_) (seg:=[.int .i64 x1_1]) (j:=0) hcl8 hcc8 (show 1 ≤ 2 from by decide) (x':=(⟨x1_1,(rd_T89 x0_1 x5_1).f1⟩ : S89)) (k89_mkM _ _ _ (⟨x1_1,(rd_T89 x0_1 x5_1).f1⟩ : S89) ) (fun _ hk=>hk);have hx8_0:=hcc8 0 _ rfl
     (try simp only [show (k89).sz = 2 from rfl,Nat.mul_one,Nat.add_zero] at hx8_0)
     have hf8_0:=hfr8 0
     (try simp only [show (k89).sz = 2 from rfl,Nat.mul_one,Nat.add_zero] at hf8_0)
     clear hcl8 hcc8 hfr8 hM8;go_wp2_with (first | ((with_reducible refine gate_store (t:=3) (p:=16) rfl ?_);refine store_event (t:=3) (p:=16) (v:=?vo_w9) (w1:=(wr.setCell ⟨go5,(x5_1 : Int).toNat * 2,none⟩ (.int .i64 x1_1))) ?hg ?ho ?hn ?hr ?_;(case ho=>rfl);(case hg=>rfl);(case hn=>rfl);(case hr=>first | (go_simp;done) | (go_simp;rfl));intro w9 hw;have hg : wr.grownBy w9 (some go5):=(by rw [hw];exact HP8.2);have hp_ : Kd.R k89 89 w9 w0.heap.size (fun k_=>(P0_ k_ ∨ w.heap.size ≤ k_)) (.slice (some ⟨go5,0,none⟩) x0_1.length co7) y397:=(by rw [hw,Ny397.out];exact HP8.1);clear HP8;have n0_:=zMk (hp_);have n1_:=zMk ((by rw [hw];exact below_set (HB.out) GB5.out : Below w0.heap.size w0 w9));have n2_:=zMk (Kept.of_grown (S:=(fun k_=>P0_ k_)) hg (by repeat (first | (with_reducible first | exact HK.out | apply Kept.alloc | apply Kept.drewN | apply Kept.drew) | exact HK.out)) (fun k_ e_=>(HO_0.out.1 k_ e_)));clear HO_0;clear HB;clear HK;have HO_0:=n0_;have HB:=n1_;have HK:=n2_;clear n0_ n1_ n2_;clear hg hw hp_;have p6 : 0 ≤ (x5_1 : Int):=zDe (by first | (with_reducible assumption) | assumption);have q6 : (x5_1 : Int) < ((x0_1.length : Int) : Int):=zDe (by first | (with_reducible assumption) | assumption);obtain ⟨ce6,hcl6,hM6,hcc6,hfr6⟩:=Kd.R_elem HO_0.out z89 (x5_1 : Int) p6 q6;obtain rfl:=k89_openM hM6;have hx6_0 : w9.cell? ⟨go5,(x5_1 : Int).toNat * 2,none⟩ = some (.int .i64 ((rd_T89 y397 x5_1).f0)):=hcc6 0 _ rfl;have hx6_1 : w9.cell? ⟨go5,(x5_1 : Int).toNat * 2 + 1,none⟩ = some (.int .i64 ((rd_T89 y397 x5_1).f1)):=hcc6 1 _ rfl;have hf6_0 : w9.frozen? ⟨go5,(x5_1 : Int).toNat * 2,none⟩ = false:=hfr6 0;have hf6_1 : w9.frozen? ⟨go5,(x5_1 : Int).toNat * 2 + 1,none⟩ = false:=hfr6 1;clear hcl6 hcc6 hfr6 hM6;replace p6:=eq_true p6;replace q6:=eq_true q6;have HX10:=zMk (show Kd.R k89 89 w9 w0.heap.size (fun k_=>(P0_ k_ ∨ w.heap.size ≤ k_)) (.slice (some ⟨go5,0,none⟩) x0_1.length co7) y397 from (rs HO_0));obtain ⟨ce10,hcl10,hM10,hcc10,hfr10⟩:=Kd.R_elem HX10.out z89 (x5_1 : Int) (zDe (by first | (with_reducible assumption) | assumption)) (by have h_ : (x5_1 : Int) < ((x0_1.length : Int) : Int):=zDe (by first | (with_reducible assumption) | assumption);first | exact h_ | (have e_:=(Kd.R_reads' HO_0.out).1;omega) | simpa using h_);obtain rfl:=k89_openM hM10;have HP10:=Kd.R_seg HX10.out (x5_1 : Int) (zDe (by first | (with_reducible assumption) | assumption)) (by have h_ : (x5_1 : Int) < ((x0_1.length : Int) : Int):=zDe (by first | (with_reducible assumption) | assumption);first | exact h_ | (have e_:=(Kd.R_reads' HO_0.out).1;omega) | simpa using h_) (seg:=[.int .i64 (wrap64 (x1_1 + 1))]) (j:=1) hcl10 hcc10 (show 2 ≤ 2 from by decide) (x':=(⟨(rd_T89 y397 x5_1).f0,wrap64 (x1_1 + 1)⟩ : S89)) (k89_mkM _ _ _ (⟨(rd_T89 y397 x5_1).f0,wrap64 (x1_1 + 1)⟩ : S89) ) (fun _ hk=>hk);have hx10_1:=hcc10 1 _ rfl;(try simp only [show (k89).sz = 2 from rfl,Nat.mul_one,Nat.add_zero] at hx10_1);have hf10_1:=hfr10 1;(try simp only [show (k89).sz = 2 from rfl,Nat.mul_one,Nat.add_zero] at hf10_1);clear hcl10 hcc10 hfr10 hM10) | ((with_reducible refine gate_store (t:=3) (p:=23) rfl ?_);refine store_event (t:=3) (p:=23) (v:=?vo_w11) (w1:=(w9.setCell ⟨go5,(x5_1 : Int).toNat * 2 + 1,none⟩ (.int .i64 (wrap64 (x1_1 + 1))))) ?hg ?ho ?hn ?hr ?_;(case ho=>rfl);(case hg=>rfl);(case hn=>rfl);(case hr=>first | (go_simp;done) | (go_simp;rfl));intro w11 hw;have hg : w9.grownBy w11 (some go5):=(by rw [hw];exact HP10.2);have hp_ : Kd.R k89 89 w11 w0.heap.size (fun k_=>(P0_ k_ ∨ w.heap.size ≤ k_)) (.slice (some ⟨go5,0,none⟩) x0_1.length co7) y398:=(by rw [hw,Ny398.out];exact HP10.1);clear HP10;have n0_:=zMk (hp_);have n1_:=zMk ((by rw [hw];exact below_set (HB.out) GB5.out : Below w0.heap.size w0 w11));have n2_:=zMk (Kept.of_grown (S:=(fun k_=>P0_ k_)) hg (by repeat (first | (with_reducible first | exact HK.out | apply Kept.alloc | apply Kept.drewN | apply Kept.drew) | exact HK.out)) (fun k_ e_=>(HO_0.out.1 k_ e_)));clear HO_0;clear HB;clear HK;have HO_0:=n0_;have HB:=n1_;have HK:=n2_;clear n0_ n1_ n2_;clear hg hw hp_));go_roundg k1;case measure=>have:=HK1.out;omega
     case rel=>exact ⟨(y398),(wrap64 ((wrap64 (x1_1 + 1)) + 1)),(wrap64 (x5_1 + 1)),(by first | rfl | (simp;done) | (simp [*];done)),(by first | rfl | (simp;done) | (simp [*];done)),H',⟨by have:=HK1.out;omega⟩,⟨rs HO_0⟩,⟨by repeat (first | (with_reducible first | exact HK.out | apply Kept.alloc | apply Kept.drewN | apply Kept.drew) | exact HK.out)⟩,⟨hs HB⟩⟩
    rw [if_neg c4] at H;exact absurd H (by simp)
   rw [if_neg c3] at H;have c3b0 : decide (x5_1 < (x0_1.length : Int)) = false:=decide_eq_false c3;clear c3;simp only [Option.some.injEq,Prod.mk.injEq] at H;obtain ⟨rfl,rfl⟩:=H;obtain ⟨Ao12,co12,eo12⟩:=Kd.R_slice HO_0.out;subst eo12
   go_wp2
   go_ret
   exact ⟨by first | rfl | (simp [errW_none,errW_some] <;> rfl) | (simp [*,errW_none,errW_some] <;> rfl),rs HO_0,hs HB,by repeat (first | (with_reducible first | exact HK.out | apply Kept.alloc | apply Kept.drewN | apply Kept.drew) | exact HK.out)⟩
def laws_markStore.f (k : Nat) (l0_0 : List (S89)) (l0_1 : List (S147)) (a0_2 : Int) (a1 : Int) : Option (Int × (List (S89)) × (List (S147))):=((laws_markVolS.f k l0_0 a1).bind fun b0=>((laws_markArena.f k l0_1 b0.1).bind fun b1=>(some (b1.1,b0.2,b1.2))))
theorem laws_markStore.mono : ∀ a0 a1 a2 a3 k,LeO (laws_markStore.f k a0 a1 a2 a3) (laws_markStore.f (k + 1) a0 a1 a2 a3):=by
 intro a0 a1 a2 a3 k;unfold laws_markStore.f
 repeat' first
   | (with_reducible exact laws_markArena.mono _ _ _)
   | (with_reducible exact laws_markVolS.mono _ _ _)
   | (with_reducible exact LeO.refl _)
   | (with_reducible exact LeO.none _)
   | (with_reducible refine LeO.ite ?_ ?_)
   | (with_reducible refine LeO.bind ?_ (fun _=>?_))
   | exact laws_markArena.mono _ _ _
   | exact laws_markVolS.mono _ _ _
   | exact LeO.none _
   | refine LeO.ite ?_ ?_
   | refine LeO.bind ?_ (fun _=>?_)
set_option maxHeartbeats 8000000 in
set_option maxRecDepth 100000 in
theorem laws_markStore.calls (k : Nat) (P0_0_ : Nat → Prop) (u0_0_ : Value) (l0_0 : List (S89)) (P0_1_ : Nat → Prop) (u0_1_ : Value) (l0_1 : List (S147)) (a0_2 : Int) (a1 : Int) (r1 : Int) (r2 : List (S89)) (r3 : List (S147)) (w0 w : World) (hB : Below w0.heap.size w0 w) (hd_ : ∀ k_,P0_0_ k_ → P0_1_ k_ → False) (ho0_0 : Kd.R k89 89 w w0.heap.size P0_0_ u0_0_ l0_0) (ho0_1 : Kd.S k147 147 w w0.heap.size P0_1_ u0_1_ l0_1) (h : laws_markStore.f k l0_0 l0_1 a0_2 a1 = some (r1,r2,r3)) :
  Calls Try.prog 14 #[.agg #[u0_0_,u0_1_,.int .i64 a0_2],.int .i64 a1] w fun e w'=>e = .returned (.int .i64 r1) ∧ Kd.R k89 89 w' w0.heap.size (fun k_=>(P0_0_ k_ ∨ w.heap.size ≤ k_)) u0_0_ r2 ∧ Kd.S k147 147 w' w0.heap.size (fun k_=>(P0_1_ k_ ∨ w.heap.size ≤ k_)) u0_1_ r3 ∧ Below w0.heap.size w0 w' ∧ Kept w w' (fun k_=>P0_0_ k_ ∨ P0_1_ k_):=by
 have HZ0_0:=zMk (Kd.R_mono (ok':=fun k_=>(P0_0_ k_ ∧ k_ < w.heap.size)) (Kd.R_bound ho0_0) (fun k_ hk_=>⟨hk_.1,hk_.2.2.1⟩));have HZ0_1:=zMk (Kd.S_mono (ok':=fun k_=>(P0_1_ k_ ∧ k_ < w.heap.size)) (Kd.S_bound ho0_1) (fun k_ hk_=>⟨hk_.1,hk_.2.2.1⟩));clear ho0_0 ho0_1;have HB:=zMk hB;clear hB;have HK:=zMk (Kept.refl w (fun k_=>P0_0_ k_ ∨ P0_1_ k_));have HL:=zMk (Nat.le_refl w.heap.size);have H : ((laws_markVolS.f k l0_0 a1).bind fun b0=>((laws_markArena.f k l0_1 b0.1).bind fun b1=>(some (b1.1,b0.2,b1.2)))) = some (r1,r2,r3):=h;clear h;replace H:=Option.bind_eq_some_iff.mp H;obtain ⟨⟨t3,t4⟩,Fa00,H⟩:=H;replace H : ((laws_markArena.f k l0_1 t3).bind fun b1=>(some (b1.1,t4,b1.2))) = some (r1,r2,r3):=H;have Fa0:=zMk Fa00;clear Fa00;replace H:=Option.bind_eq_some_iff.mp H;obtain ⟨⟨t6,t7⟩,Fa10,H⟩:=H;replace H : (some (t6,t4,t7)) = some (r1,r2,r3):=H;have Fa1:=zMk Fa10;clear Fa10;have H2:=Option.some.inj H;simp only [Prod.mk.injEq] at H2;obtain ⟨rfl,rfl,rfl⟩:=H2
 go_enter Try.func14,Try.ntmps14
 go_wp2_with (first | ((with_reducible refine gate_dst (N:=2) rfl ?_);refine box_event ?hg (N:=2) ?hd (cs:=#[u0_0_,u0_1_,.int .i64 a0_2]) (t:=36) ?hr ?_;(case hd=>rfl);(case hg=>rfl);(case hr=>first | (go_simp;done) | (go_simp;rfl));intro gb1 hg w1 hbox hb;replace HZ0_0:=zMk (Kd.R_below HZ0_0.out hb);replace HZ0_1:=zMk (Kd.S_below HZ0_1.out hb);have GBK1:=zMk (show gb1 = w.heap.size ∧ gb1 < w1.heap.size from ⟨hg,blk_lt hbox⟩);have GW1:=zMk (show w0.heap.size ≤ gb1 by have q_:=below_size HB.out;rw [hg];exact q_);have BK1:=zMk hbox;replace HK:=zMk (Kept.below HK.out hb);replace HB:=zMk (below_then HB.out HB.out.size hb);replace HL:=zMk (And.intro HL.out (below_size hb));clear hb hbox hg;have hcz2 : w1.cell? ⟨gb1,0,none⟩ = some (u0_0_):=(zCl BK1.out 0).trans rfl;have hfz3:=zFr BK1.out 0;have hcz4 : w1.cell? ⟨gb1,1,none⟩ = some (u0_1_):=(zCl BK1.out 1).trans rfl;have hfz5:=zFr BK1.out 1;have hcz6 : w1.cell? ⟨gb1,2,none⟩ = some (.int .i64 a0_2):=(zCl BK1.out 2).trans rfl;have hfz7:=zFr BK1.out 2) | ((with_reducible refine gate_callee (f:=52) rfl ?_);refine goesL_ (some 8) rfl rfl Try.func52 (by kernel_rfl) rfl #[u0_0_,.int .i64 a1] rfl (by (try simp only [List.map_toArray,List.map_cons,List.map_nil]);first | done | rfl | (simp only [List.length_drop,List.length_take];rfl)) ?_;(with_reducible refine (laws_markVolS.calls k (fun k_=>(P0_0_ k_ ∧ k_ < w.heap.size)) _ l0_0 a1 t3 t4 w0 _ HB.out HZ0_0.out Fa0.out).mono ?_);rintro e w8 ⟨rfl,hy0,hb0,hk⟩;refine ⟨_,rfl,?_⟩;have ny0_:=zMk (Kd.R_mono (ok':=fun k_=>((P0_0_ k_ ∧ k_ < w.heap.size) ∨ (w1.heap.size ≤ k_ ∧ k_ < w8.heap.size))) (Kd.R_bound hy0) (fun k_ hk_=>hk_.1.imp id (fun h_=>⟨h_,hk_.2.2.1⟩)));replace HZ0_1:=zMk (Kd.S_kept HZ0_1.out hk (fun k_ (hk_ : (P0_1_ k_ ∧ k_ < w.heap.size)) (hs_ : (P0_0_ k_ ∧ k_ < w.heap.size))=>by have q_:=HL.out;first | omega | exact hd_ k_ hk_.1 hs_.1 | exact hd_ k_ hs_.1 hk_.1 | (rcases hk_ with h_ | h_ <;> first | omega | exact hd_ k_ h_.1 hs_.1 | exact hd_ k_ hs_.1 h_.1)));replace BK1:=zMk (blk_kept BK1.out hk (fun hs_=>by have q_:=HL.out;have g_:=GBK1.out;have hs2_ : (P0_0_ gb1 ∧ gb1 < w.heap.size):=hs_;omega));replace HZ0_0:=ny0_;clear ny0_;replace HK:=zMk (Kept.then_ HK.out hk (fun k_ hs_=>by have q_:=HL.out;have h_ : (P0_0_ k_ ∧ k_ < w.heap.size):=hs_;first | (first | exact .inl h_.1 | exact .inl (.inl h_.1) | exact .inl (.inr h_.1) | exact .inr (by omega)) | (rcases h_ with h_ | h_ <;> first | exact .inl h_.1 | exact .inl (.inl h_.1) | exact .inl (.inr h_.1) | exact .inr (by omega))));replace HB:=zMk hb0;replace HL:=zMk (And.intro HL.out hk.1);clear hb0 hk hy0;clear hcz2 hfz3 hcz4 hfz5 hcz6 hfz7;have hcz9 : w8.cell? ⟨gb1,0,none⟩ = some (u0_0_):=(zCl BK1.out 0).trans rfl;have hfz10:=zFr BK1.out 0;have hcz11 : w8.cell? ⟨gb1,1,none⟩ = some (u0_1_):=(zCl BK1.out 1).trans rfl;have hfz12:=zFr BK1.out 1;have hcz13 : w8.cell? ⟨gb1,2,none⟩ = some (.int .i64 a0_2):=(zCl BK1.out 2).trans rfl;have hfz14:=zFr BK1.out 2) | ((with_reducible refine gate_callee (f:=53) rfl ?_);refine goesL_ (some 12) rfl rfl Try.func53 (by kernel_rfl) rfl #[.agg #[u0_1_],.int .i64 t3] rfl (by (try simp only [List.map_toArray,List.map_cons,List.map_nil]);first | done | rfl | (simp only [List.length_drop,List.length_take];rfl)) ?_;(with_reducible refine (laws_markArena.calls k (fun k_=>(P0_1_ k_ ∧ k_ < w.heap.size)) _ l0_1 t3 t6 t7 w0 _ HB.out HZ0_1.out Fa1.out).mono ?_);rintro e w15 ⟨rfl,hy0,hb0,hk⟩;refine ⟨_,rfl,?_⟩;have ny0_:=zMk (Kd.S_mono (ok':=fun k_=>((P0_1_ k_ ∧ k_ < w.heap.size) ∨ (w8.heap.size ≤ k_ ∧ k_ < w15.heap.size))) (Kd.S_bound hy0) (fun k_ hk_=>hk_.1.imp id (fun h_=>⟨h_,hk_.2.2.1⟩)));replace HZ0_0:=zMk (Kd.R_kept HZ0_0.out hk (fun k_ (hk_ : ((P0_0_ k_ ∧ k_ < w.heap.size) ∨ (w1.heap.size ≤ k_ ∧ k_ < w8.heap.size))) (hs_ : (P0_1_ k_ ∧ k_ < w.heap.size))=>by have q_:=HL.out;first | omega | exact hd_ k_ hk_.1 hs_.1 | exact hd_ k_ hs_.1 hk_.1 | (rcases hk_ with h_ | h_ <;> first | omega | exact hd_ k_ h_.1 hs_.1 | exact hd_ k_ hs_.1 h_.1)));replace BK1:=zMk (blk_kept BK1.out hk (fun hs_=>by have q_:=HL.out;have g_:=GBK1.out;have hs2_ : (P0_1_ gb1 ∧ gb1 < w.heap.size):=hs_;omega));replace HZ0_1:=ny0_;clear ny0_;replace HK:=zMk (Kept.then_ HK.out hk (fun k_ hs_=>by have q_:=HL.out;have h_ : (P0_1_ k_ ∧ k_ < w.heap.size):=hs_;first | (first | exact .inl h_.1 | exact .inl (.inl h_.1) | exact .inl (.inr h_.1) | exact .inr (by omega)) | (rcases h_ with h_ | h_ <;> first | exact .inl h_.1 | exact .inl (.inl h_.1) | exact .inl (.inr h_.1) | exact .inr (by omega))));replace HB:=zMk hb0;replace HL:=zMk (And.intro HL.out hk.1);clear hb0 hk hy0;clear hcz9 hfz10 hcz11 hfz12 hcz13 hfz14;have hcz16 : w15.cell? ⟨gb1,0,none⟩ = some (u0_0_):=(zCl BK1.out 0).trans rfl;have hfz17:=zFr BK1.out 0;have hcz18 : w15.cell? ⟨gb1,1,none⟩ = some (u0_1_):=(zCl BK1.out 1).trans rfl;have hfz19:=zFr BK1.out 1;have hcz20 : w15.cell? ⟨gb1,2,none⟩ = some (.int .i64 a0_2):=(zCl BK1.out 2).trans rfl;have hfz21:=zFr BK1.out 2))
 go_ret
 exact ⟨rfl,Kd.R_mono (ok':=fun k_=>(P0_0_ k_ ∨ w.heap.size ≤ k_)) HZ0_0.out (fun k_ hk_=>by have q_:=HL.out;have h_ : ((P0_0_ k_ ∧ k_ < w.heap.size) ∨ (w1.heap.size ≤ k_ ∧ k_ < w8.heap.size)):=hk_;first | (first | exact .inl h_.1 | exact .inl (.inl h_.1) | exact .inl (.inr h_.1) | exact .inr (by omega)) | (rcases h_ with h_ | h_ <;> first | exact .inl h_.1 | exact .inl (.inl h_.1) | exact .inl (.inr h_.1) | exact .inr (by omega))),Kd.S_mono (ok':=fun k_=>(P0_1_ k_ ∨ w.heap.size ≤ k_)) HZ0_1.out (fun k_ hk_=>by have q_:=HL.out;have h_ : ((P0_1_ k_ ∧ k_ < w.heap.size) ∨ (w8.heap.size ≤ k_ ∧ k_ < w15.heap.size)):=hk_;first | (first | exact .inl h_.1 | exact .inl (.inl h_.1) | exact .inl (.inr h_.1) | exact .inr (by omega)) | (rcases h_ with h_ | h_ <;> first | exact .inl h_.1 | exact .inl (.inl h_.1) | exact .inl (.inr h_.1) | exact .inr (by omega))),HB.out,HK.out⟩
def spec_l01In.f (a0 : Int) (a1 : Int) (a2 : Int) : Option (Bool):=if a0 ≥ a1 then (some (decide (a0 ≤ a2))) else (some false)
set_option maxHeartbeats 8000000 in
set_option maxRecDepth 100000 in
theorem spec_l01In.calls (a0 : Int) (a1 : Int) (a2 : Int) (r : Bool) (w : World) (h : spec_l01In.f a0 a1 a2 = some r) :
  Calls Try.prog 63 #[.int .i64 a0,.int .i64 a1,.int .i64 a2] w fun e w'=>e = .returned (.bool r) ∧ Drawn0 w w':=by
 have H : (if a0 ≥ a1 then (some (decide (a0 ≤ a2))) else (some false)) = some r:=h;clear h
 by_cases c4 : a0 ≥ a1
 ·rw [if_pos c4] at H;have c4b0 : decide (a1 ≤ a0) = true:=decide_eq_true c4;clear c4;obtain rfl:=Option.some.inj H
  go_enter Try.func63,Try.ntmps63
  go_wp2
  go_ret
  exact ⟨by first | rfl | (simp;done) | (simp [*];done),by repeat (first | exact Drawn0.refl _ | apply Drawn0.step)⟩
 rw [if_neg c4] at H;have c4b0 : decide (a1 ≤ a0) = false:=decide_eq_false c4;clear c4;obtain rfl:=Option.some.inj H
 go_enter Try.func63,Try.ntmps63
 go_wp2
 go_ret
 exact ⟨by first | rfl | (simp;done) | (simp [*];done),by repeat (first | exact Drawn0.refl _ | apply Drawn0.step)⟩
mutual
def spec_ArenaOk.l0 : Nat → Int → List (S147) → Option (Bool)
 | 0,_,_=>none
 | k + 1,x3,x111000=>if x3 < (x111000.length : Int) then (if 0 ≤ x3 then (if (((rd_T147 x111000 x3).f1).length : Int) = 4 then (spec_ArenaOk.l1 k x3 0 x111000 ((rd_T147 x111000 x3).f0) ((rd_T147 x111000 x3).f1)) else (some false)) else (none)) else (some true)
def spec_ArenaOk.l1 : Nat → Int → Int → List (S147) → Bool → List Int → Option (Bool)
 | 0,_,_,_,_,_=>none
 | k + 1,x3,x5,x111000,x113000,x113001=>if x5 < 4 then (if 0 ≤ x5 then (if x5 < (x113001.length : Int) then (if x113000 = true then (if (rd x113001 x5) < 0 then (some false) else (spec_ArenaOk.l1 k x3 (wrap64 (x5 + 1)) x111000 x113000 x113001)) else (if (rd x113001 x5) = (-1) then (spec_ArenaOk.l1 k x3 (wrap64 (x5 + 1)) x111000 x113000 x113001) else ((spec_l01In.f (rd x113001 x5) 0 (wrap64 (x3 - 1))).bind fun t114=>(if t114 = true then (if 0 ≤ (rd x113001 x5) then (if (rd x113001 x5) < (x111000.length : Int) then (if ((rd_T147 x111000 (rd x113001 x5)).f0 = true) then (spec_ArenaOk.l1 k x3 (wrap64 (x5 + 1)) x111000 x113000 x113001) else (some false)) else (none)) else (none)) else (some false))))) else (none)) else (none)) else (spec_ArenaOk.l0 k (wrap64 (x3 + 1)) x111000)
end
def spec_ArenaOk.f (k : Nat) (l0_0 : List (S147)) : Option (Bool):=spec_ArenaOk.l0 k 0 l0_0
theorem spec_ArenaOk.mono_l : ∀ k,(∀ y0 y1,LeO (spec_ArenaOk.l0 k y0 y1) (spec_ArenaOk.l0 (k + 1) y0 y1)) ∧ (∀ y0 y1 y2 y3 y4,LeO (spec_ArenaOk.l1 k y0 y1 y2 y3 y4) (spec_ArenaOk.l1 (k + 1) y0 y1 y2 y3 y4))
 | 0=>⟨fun _ _ r h=>by simp [spec_ArenaOk.l0] at h,fun _ _ _ _ _ r h=>by simp [spec_ArenaOk.l1] at h⟩
 | k + 1=>by
  obtain ⟨ih0,ih1⟩:=spec_ArenaOk.mono_l k;refine ⟨?_,?_⟩
  ·intro y0 y1;unfold spec_ArenaOk.l0
   repeat' first
   | (with_reducible exact ih0 _ _)
   | (with_reducible exact ih1 _ _ _ _ _)
   | (with_reducible exact LeO.refl _)
   | (with_reducible exact LeO.none _)
   | (with_reducible refine LeO.ite ?_ ?_)
   | (with_reducible refine LeO.bind ?_ (fun _=>?_))
   | exact ih0 _ _
   | exact ih1 _ _ _ _ _
   | exact LeO.none _
   | refine LeO.ite ?_ ?_
   | refine LeO.bind ?_ (fun _=>?_)
  intro y0 y1 y2 y3 y4;unfold spec_ArenaOk.l1
  repeat' first
  | (with_reducible exact ih0 _ _)
  | (with_reducible exact ih1 _ _ _ _ _)
  | (with_reducible exact LeO.refl _)
  | (with_reducible exact LeO.none _)
  | (with_reducible refine LeO.ite ?_ ?_)
  | (with_reducible refine LeO.bind ?_ (fun _=>?_))
  | exact ih0 _ _
  | exact ih1 _ _ _ _ _
  | exact LeO.none _
  | refine LeO.ite ?_ ?_
  | refine LeO.bind ?_ (fun _=>?_)
theorem spec_ArenaOk.mono : ∀ a0 k,LeO (spec_ArenaOk.f k a0) (spec_ArenaOk.f (k + 1) a0):=by
 intro a0 k;obtain ⟨ih0,ih1⟩:=spec_ArenaOk.mono_l k;unfold spec_ArenaOk.f
 repeat' first
   | (with_reducible exact ih0 _ _)
   | (with_reducible exact ih1 _ _ _ _ _)
   | (with_reducible exact LeO.refl _)
   | (with_reducible exact LeO.none _)
   | (with_reducible refine LeO.ite ?_ ?_)
   | (with_reducible refine LeO.bind ?_ (fun _=>?_))
   | exact ih0 _ _
   | exact ih1 _ _ _ _ _
   | exact LeO.none _
   | refine LeO.ite ?_ ?_
   | refine LeO.bind ?_ (fun _=>?_)
set_option maxHeartbeats 8000000 in
set_option maxRecDepth 100000 in
theorem spec_ArenaOk.calls (k : Nat) (A0_0 : Option Addr) (c0_0 : Nat) (l0_0 : List (S147)) (r : Bool) (w : World) (hr0_0 : Kd.C k147 w A0_0 l0_0.length l0_0) (hc0_0 : l0_0.length ≤ c0_0) (h : spec_ArenaOk.f k l0_0 = some r) :
  Calls Try.prog 99 #[.agg #[.slice A0_0 l0_0.length c0_0]] w fun e w'=>e = .returned (.bool r) ∧ Below w.heap.size w w':=by
 have hu34:=Try.underlying34;have hu147:=Try.underlying147;have HR0_0:=zMk hr0_0;have HC0_0:=zMk hc0_0;clear hr0_0 hc0_0;have HB:=zMk (Below.refl w.heap.size w);have H : (spec_ArenaOk.l0 k 0 l0_0) = some r:=h;clear h;have H':=zMk H;clear H
 go_enter Try.func99,Try.ntmps99
 go_wp2_with (first | ((with_reducible refine gate_dst (N:=1) rfl ?_);refine box_event ?hg (N:=1) ?hd (cs:=#[.slice A0_0 l0_0.length c0_0]) (t:=34) ?hr ?_;(case hd=>rfl);(case hg=>rfl);(case hr=>first | (go_simp;done) | (go_simp;rfl));intro gb110 hg w2 hbox hb;have n0_:=zMk (below_step (hs HB) hb);have n1_:=zMk (hbox);have n2_:=zMk ((by rw [hg];exact (below_size (hs HB)) : w.heap.size ≤ gb110));have n3_:=zMk ((by rw [hg];exact (below_size (hs HB)) : w.heap.size ≤ gb110));clear HB;have HB:=n0_;have BK110:=n1_;have GW110:=n2_;have GE110:=n3_;clear n0_ n1_ n2_ n3_;clear hb hbox hg));go_loopg [3] k (fun kq v3 w'=>∃ (x3_1 : Int),v3 = .int .i64 x3_1 ∧ Aside0 (spec_ArenaOk.l0 kq x3_1 l0_0 = some r) ∧ Aside0 (kq ≤ k) ∧ Aside0 (w'.heap[gb110]? = some (.cells #[(.slice A0_0 l0_0.length c0_0)] 34 (0,0))) ∧ Aside0 (Below w.heap.size w w'));case atStart=>exact ⟨(0),(by first | rfl | (simp;done) | (simp [*];done)),H',⟨Nat.le_refl _⟩,⟨bs BK110⟩,⟨hs1 HB GE110⟩⟩
 case round =>
  clear H'
  try clear p2
  obtain ⟨x3_1,rfl,HA,HK1,BK110,HB⟩:=hrel;cases gk with
  | zero=>exact absurd HA.out (by simp [spec_ArenaOk.l0])
  | succ k1 =>
   have H:=HA.out;clear HA;simp only [spec_ArenaOk.l0] at H
   by_cases c3 : x3_1 < (l0_0.length : Int)
   ·rw [if_pos c3] at H;have c3b0 : decide (x3_1 < (l0_0.length : Int)) = true:=decide_eq_true c3;clear c3
    by_cases c4 : 0 ≤ x3_1
    ·rw [if_pos c4] at H;have c4b0 : decide (0 ≤ x3_1) = true:=decide_eq_true c4;clear c4;have hcz6_0 : wr.cell? ⟨gb110,0,none⟩ = some (.slice A0_0 l0_0.length c0_0):=(zCl BK110.out 0).trans rfl;have hfz6_0:=zFr BK110.out 0;have p111 : 0 ≤ (x3_1 : Int):=zDe (by first | (with_reducible assumption) | assumption);have q111 : x3_1 < (l0_0.length : Int):=zDe (by first | (with_reducible assumption) | assumption);obtain ⟨ad111,A111_1,c111_1,e111,hx111_0,hx111_1,hl111_1,hi111_1⟩:=at_T147 HR0_0.out x3_1 p111 q111;cases e111;replace hx111_0:=(HB.out.cell (zBl w _ hx111_0)).trans hx111_0;replace hx111_1:=(HB.out.cell (zBl w _ hx111_1)).trans hx111_1;have HR111_1:=zMk hi111_1;have HC111_1:=zMk hl111_1;clear hi111_1 hl111_1;replace p111:=eq_true p111;replace q111:=eq_true q111
     go_upto_if 22 with (first | ((with_reducible refine gate_dst (N:=4) rfl ?_);refine box_event ?hg (N:=4) ?hd (cs:=#[.bool false,.slice none 0 0]) (t:=147) ?hr ?_;(case hd=>rfl);(case hg=>rfl);(case hr=>first | (go_simp;done) | (go_simp;rfl));intro gb112 hg w7 hbox hb;have n0_:=zMk (blk_below (g:=gb110) (o:=.cells #[.slice (some ad111) l0_0.length c0_0] 34 (0,0)) (bs BK110) hb);have n1_:=zMk (below_step (hs1 HB GE110) hb);have n2_:=zMk (hbox);have n3_:=zMk ((by rw [hg];exact (below_size (hs1 HB GE110)) : w.heap.size ≤ gb112));have n4_:=zMk ((by rw [hg];exact (below_size (hs1 HB GE110)) : w.heap.size ≤ gb112));have n5_:=zMk ((by rw [hg];exact Nat.ne_of_lt (blk_lt (g:=gb110) (o:=.cells #[.slice (some ad111) l0_0.length c0_0] 34 (0,0)) (bs BK110)) : gb110 ≠ gb112));have n6_:=zMk ((by rw [hg];exact Nat.ne_of_gt (blk_lt (g:=gb110) (o:=.cells #[.slice (some ad111) l0_0.length c0_0] 34 (0,0)) (bs BK110)) : gb112 ≠ gb110));clear BK110;clear HB;have BK110:=n0_;have HB:=n1_;have BK112:=n2_;have GW112:=n3_;have GE112:=n4_;have NB110_112:=n5_;have NB112_110:=n6_;clear n0_ n1_ n2_ n3_ n4_ n5_ n6_;clear hb hbox hg;have hnb8:=NB112_110.out;have hnc8:=NB110_112.out;have hcz9_0 : w7.cell? ⟨gb112,0,none⟩ = some (.bool false):=(zCl BK112.out 0).trans rfl;have hcz9_1 : w7.cell? ⟨gb112,1,none⟩ = some (.slice none 0 0):=(zCl BK112.out 1).trans rfl;have hfz9_0:=zFr BK112.out 0;have hfz9_1:=zFr BK112.out 1))
     (try simp only [Act.put,zS1,zS2,zS3])
     by_cases c5 : (((rd_T147 l0_0 x3_1).f1).length : Int) = 4
     ·rw [if_pos c5] at H;have c5b0 : ((((rd_T147 l0_0 x3_1).f1).length : Int) == 4) = true:=beq_iff_eq.mpr c5;have c5b1 : ((((rd_T147 l0_0 x3_1).f1).length : Int) != 4) = false:=bne_eq_false_iff_eq.mpr c5;clear c5
      (first | rw [c5b0] | rw [c5b1] | (simp only [i64_w,i32_w];rw [c5b0]) | skip)
      have H':=zMk H;clear H
      go_wp2
      (try generalize (Value.agg #[.bool ((rd_T147 l0_0 x3_1).f0),.slice A111_1 ((rd_T147 l0_0 x3_1).f1).length c111_1]) = gd18)
      go_loopg [5] k1 (fun kq v5 w'=>∃ (x5_2 : Int),v5 = .int .i64 x5_2 ∧ Aside0 (spec_ArenaOk.l1 kq x3_1 x5_2 l0_0 ((rd_T147 l0_0 x3_1).f0) ((rd_T147 l0_0 x3_1).f1) = some r) ∧ Aside0 (kq ≤ k1) ∧ Aside0 (w'.heap[gb110]? = some (.cells #[(.slice (some ad111) l0_0.length c0_0)] 34 (0,0))) ∧ Aside0 (w'.heap[gb112]? = some (.cells #[.bool ((rd_T147 l0_0 x3_1).f0),(.slice A111_1 ((rd_T147 l0_0 x3_1).f1).length c111_1)] 147 (0,0))) ∧ Aside0 (Below w.heap.size w w'));case atStart=>exact ⟨(0),(by first | rfl | (simp;done) | (simp [*];done)),H',⟨Nat.le_refl _⟩,⟨by (with_reducible repeat (first | refine blk_drewN ?_ _ | refine blk_drew ?_ | refine blk_alloc ?_ _));refine blk_far ?_ NB110_112.out _;(with_reducible repeat (first | refine blk_drewN ?_ _ | refine blk_drew ?_ | refine blk_alloc ?_ _));refine blk_far ?_ NB110_112.out _;(with_reducible repeat (first | refine blk_drewN ?_ _ | refine blk_drew ?_ | refine blk_alloc ?_ _));exact BK110.out⟩,⟨by (with_reducible repeat (first | refine blk_drewN ?_ _ | refine blk_drew ?_ | refine blk_alloc ?_ _));refine blk_put (cs:=#[.bool ((rd_T147 l0_0 x3_1).f0),.slice none 0 0]) ?_ 1 _ rfl;(with_reducible repeat (first | refine blk_drewN ?_ _ | refine blk_drew ?_ | refine blk_alloc ?_ _));refine blk_put (cs:=#[.bool false,.slice none 0 0]) ?_ 0 _ rfl;(with_reducible repeat (first | refine blk_drewN ?_ _ | refine blk_drew ?_ | refine blk_alloc ?_ _));exact BK112.out⟩,⟨hs2 HB GE110 GE112⟩⟩
      case round =>
       clear H'
       try clear c1
       try clear p1
       try clear q1
       try clear hx1
       try clear p2
       try clear c3
       try clear c3b0
       try clear c4
       try clear c4b0
       try clear c5
       try clear c5b0
       try clear c5b1
       try clear c8
       try clear c9
       try clear hcz6_0
       try clear hcz9_0
       try clear hcz9_1
       try clear hfz6_0
       try clear hfz9_0
       try clear hfz9_1
       try clear hx111_0
       try clear hx111_1
       try clear p111
       try clear p2
       try clear q111
       obtain ⟨x5_2,rfl,HA,HK2,BK110,BK112,HB⟩:=hrel;cases gk with
       | zero=>exact absurd HA.out (by simp [spec_ArenaOk.l1])
       | succ k2 =>
        have H:=HA.out;clear HA;simp only [spec_ArenaOk.l1] at H
        by_cases c10 : x5_2 < 4
        ·rw [if_pos c10] at H;have c10b0 : decide (x5_2 < 4) = true:=decide_eq_true c10;clear c10
         by_cases c11 : 0 ≤ x5_2
         ·rw [if_pos c11] at H;have c11b0 : decide (0 ≤ x5_2) = true:=decide_eq_true c11;clear c11
          by_cases c12 : x5_2 < (((rd_T147 l0_0 x3_1).f1).length : Int)
          ·rw [if_pos c12] at H;have c12b0 : decide (x5_2 < (((rd_T147 l0_0 x3_1).f1).length : Int)) = true:=decide_eq_true c12;clear c12
           by_cases c13 : ((rd_T147 l0_0 x3_1).f0) = true
           ·rw [if_pos c13] at H;have c13b0 : ((rd_T147 l0_0 x3_1).f0) = true:=c13;clear c13
            by_cases c14 : (rd ((rd_T147 l0_0 x3_1).f1) x5_2) < 0
            ·rw [if_pos c14] at H;have c14b0 : decide ((rd ((rd_T147 l0_0 x3_1).f1) x5_2) < 0) = true:=decide_eq_true c14;clear c14;obtain rfl:=Option.some.inj H;have hnb15:=NB112_110.out;have hnc15:=NB110_112.out;have hcz16_0 : wr.cell? ⟨gb112,0,none⟩ = some (.bool ((rd_T147 l0_0 x3_1).f0)):=(zCl BK112.out 0).trans rfl;have hcz16_1 : wr.cell? ⟨gb112,1,none⟩ = some (.slice A111_1 ((rd_T147 l0_0 x3_1).f1).length c111_1):=(zCl BK112.out 1).trans rfl;have hfz16_0:=zFr BK112.out 0;have hfz16_1:=zFr BK112.out 1;have p113 : 0 ≤ (x5_2 : Int):=zDe (by first | (with_reducible assumption) | assumption);have q113 : x5_2 < (((rd_T147 l0_0 x3_1).f1).length : Int):=zDe (by first | (with_reducible assumption) | assumption);obtain ⟨ad113,e113,hx113_0⟩:=Kd.at_int HR111_1.out x5_2 p113 q113;cases e113;replace hx113_0:=(HB.out.cell (zBl w _ hx113_0)).trans hx113_0;replace p113:=eq_true p113;replace q113:=eq_true q113
             go_wp2
             go_ret
             exact ⟨by first | rfl | (simp [errW_none,errW_some] <;> rfl) | (simp [*,errW_none,errW_some] <;> rfl),hs2 HB GE110 GE112⟩
            rw [if_neg c14] at H;have c14b0 : decide ((rd ((rd_T147 l0_0 x3_1).f1) x5_2) < 0) = false:=decide_eq_false c14;clear c14;have H':=zMk H;clear H;have hnb17:=NB112_110.out;have hnc17:=NB110_112.out;have hcz18_0 : wr.cell? ⟨gb112,0,none⟩ = some (.bool ((rd_T147 l0_0 x3_1).f0)):=(zCl BK112.out 0).trans rfl;have hcz18_1 : wr.cell? ⟨gb112,1,none⟩ = some (.slice A111_1 ((rd_T147 l0_0 x3_1).f1).length c111_1):=(zCl BK112.out 1).trans rfl;have hfz18_0:=zFr BK112.out 0;have hfz18_1:=zFr BK112.out 1;have p113 : 0 ≤ (x5_2 : Int):=zDe (by first | (with_reducible assumption) | assumption);have q113 : x5_2 < (((rd_T147 l0_0 x3_1).f1).length : Int):=zDe (by first | (with_reducible assumption) | assumption);obtain ⟨ad113,e113,hx113_0⟩:=Kd.at_int HR111_1.out x5_2 p113 q113;cases e113;replace hx113_0:=(HB.out.cell (zBl w _ hx113_0)).trans hx113_0;replace p113:=eq_true p113;replace q113:=eq_true q113
            go_wp2
            go_roundg k2;case measure=>have:=HK1.out;have:=HK2.out;omega
            case rel=>exact ⟨(wrap64 (x5_2 + 1)),(by first | rfl | (simp;done) | (simp [*];done)),H',⟨by have:=HK1.out;have:=HK2.out;omega⟩,⟨bs BK110⟩,⟨bs BK112⟩,⟨hs2 HB GE110 GE112⟩⟩
           rw [if_neg c13] at H;have c13b0 : ((rd_T147 l0_0 x3_1).f0) = false:=by simpa using c13
           clear c13
           by_cases c19 : (rd ((rd_T147 l0_0 x3_1).f1) x5_2) = (-1)
           ·rw [if_pos c19] at H;have c19b0 : ((rd ((rd_T147 l0_0 x3_1).f1) x5_2) == (-1)) = true:=beq_iff_eq.mpr c19;have c19b1 : ((rd ((rd_T147 l0_0 x3_1).f1) x5_2) != (-1)) = false:=bne_eq_false_iff_eq.mpr c19;clear c19;have H':=zMk H;clear H;have hnb20:=NB112_110.out;have hnc20:=NB110_112.out;have hcz21_0 : wr.cell? ⟨gb112,0,none⟩ = some (.bool ((rd_T147 l0_0 x3_1).f0)):=(zCl BK112.out 0).trans rfl;have hcz21_1 : wr.cell? ⟨gb112,1,none⟩ = some (.slice A111_1 ((rd_T147 l0_0 x3_1).f1).length c111_1):=(zCl BK112.out 1).trans rfl;have hfz21_0:=zFr BK112.out 0;have hfz21_1:=zFr BK112.out 1;have p113 : 0 ≤ (x5_2 : Int):=zDe (by first | (with_reducible assumption) | assumption);have q113 : x5_2 < (((rd_T147 l0_0 x3_1).f1).length : Int):=zDe (by first | (with_reducible assumption) | assumption);obtain ⟨ad113,e113,hx113_0⟩:=Kd.at_int HR111_1.out x5_2 p113 q113;cases e113;replace hx113_0:=(HB.out.cell (zBl w _ hx113_0)).trans hx113_0;replace p113:=eq_true p113;replace q113:=eq_true q113
            go_wp2
            go_roundg k2;case measure=>have:=HK1.out;have:=HK2.out;omega
            case rel=>exact ⟨(wrap64 (x5_2 + 1)),(by first | rfl | (simp;done) | (simp [*];done)),H',⟨by have:=HK1.out;have:=HK2.out;omega⟩,⟨bs BK110⟩,⟨bs BK112⟩,⟨hs2 HB GE110 GE112⟩⟩
           rw [if_neg c19] at H;have c19b0 : ((rd ((rd_T147 l0_0 x3_1).f1) x5_2) == (-1)) = false:=beq_eq_false_iff_ne.mpr c19;have c19b1 : ((rd ((rd_T147 l0_0 x3_1).f1) x5_2) != (-1)) = true:=bne_iff_ne.mpr c19;replace H:=Option.bind_eq_some_iff.mp H;obtain ⟨t114,A220,H⟩:=H;replace H : (if t114 = true then (if 0 ≤ (rd ((rd_T147 l0_0 x3_1).f1) x5_2) then (if (rd ((rd_T147 l0_0 x3_1).f1) x5_2) < (l0_0.length : Int) then (if ((rd_T147 l0_0 (rd ((rd_T147 l0_0 x3_1).f1) x5_2)).f0 = true) then (spec_ArenaOk.l1 k2 x3_1 (wrap64 (x5_2 + 1)) l0_0 ((rd_T147 l0_0 x3_1).f0) ((rd_T147 l0_0 x3_1).f1)) else (some false)) else (none)) else (none)) else (some false)) = some r:=H;have A22:=zMk A220;clear A220
           by_cases c23 : t114 = true
           ·subst c23;have H1 : (if 0 ≤ (rd ((rd_T147 l0_0 x3_1).f1) x5_2) then (if (rd ((rd_T147 l0_0 x3_1).f1) x5_2) < (l0_0.length : Int) then (if ((rd_T147 l0_0 (rd ((rd_T147 l0_0 x3_1).f1) x5_2)).f0 = true) then (spec_ArenaOk.l1 k2 x3_1 (wrap64 (x5_2 + 1)) l0_0 ((rd_T147 l0_0 x3_1).f0) ((rd_T147 l0_0 x3_1).f1)) else (some false)) else (none)) else (none)) = some r:=by rw [if_pos rfl] at H;exact H
            clear H;have H:=H1;clear H1
            by_cases c24 : 0 ≤ (rd ((rd_T147 l0_0 x3_1).f1) x5_2)
            ·rw [if_pos c24] at H;have c24b0 : decide (0 ≤ (rd ((rd_T147 l0_0 x3_1).f1) x5_2)) = true:=decide_eq_true c24;clear c24
             by_cases c25 : (rd ((rd_T147 l0_0 x3_1).f1) x5_2) < (l0_0.length : Int)
             ·rw [if_pos c25] at H;have c25b0 : decide ((rd ((rd_T147 l0_0 x3_1).f1) x5_2) < (l0_0.length : Int)) = true:=decide_eq_true c25;clear c25;obtain ⟨bq26,hbq26⟩ : ∃ b_ : Bool,b_ = ((rd_T147 l0_0 (rd ((rd_T147 l0_0 x3_1).f1) x5_2)).f0):=⟨_,rfl⟩;replace H : (if (bq26 = true) then (spec_ArenaOk.l1 k2 x3_1 (wrap64 (x5_2 + 1)) l0_0 ((rd_T147 l0_0 x3_1).f0) ((rd_T147 l0_0 x3_1).f1)) else (some false)) = some r:=by rw [← hbq26] at H;exact H
              have Nbq26:=zMk hbq26;clear hbq26
              (try rw [← Nbq26.out] at A22)
              have hnb28:=NB112_110.out;have hnc28:=NB110_112.out;have hcz29_0 : wr.cell? ⟨gb112,0,none⟩ = some (.bool ((rd_T147 l0_0 x3_1).f0)):=(zCl BK112.out 0).trans rfl;have hcz29_1 : wr.cell? ⟨gb112,1,none⟩ = some (.slice A111_1 ((rd_T147 l0_0 x3_1).f1).length c111_1):=(zCl BK112.out 1).trans rfl;have hfz29_0:=zFr BK112.out 0;have hfz29_1:=zFr BK112.out 1;have p113 : 0 ≤ (x5_2 : Int):=zDe (by first | (with_reducible assumption) | assumption);have q113 : x5_2 < (((rd_T147 l0_0 x3_1).f1).length : Int):=zDe (by first | (with_reducible assumption) | assumption);obtain ⟨ad113,e113,hx113_0⟩:=Kd.at_int HR111_1.out x5_2 p113 q113;cases e113;replace hx113_0:=(HB.out.cell (zBl w _ hx113_0)).trans hx113_0;replace p113:=eq_true p113;replace q113:=eq_true q113
              go_upto_if 62 with (first | (go_at_call 63;(with_reducible refine (spec_l01In.calls (rd ((rd_T147 l0_0 x3_1).f1) x5_2) 0 (wrap64 (x3_1 - 1)) true _ A22.out).mono ?_);rintro e w' ⟨rfl,⟨nd,rfl⟩⟩;have hcz30_0 : wr.cell? ⟨gb110,0,none⟩ = some (.slice (some ad111) l0_0.length c0_0):=(zCl BK110.out 0).trans rfl;have hfz30_0:=zFr BK110.out 0;have p115 : 0 ≤ ((rd ((rd_T147 l0_0 x3_1).f1) x5_2) : Int):=zDe (by first | (with_reducible assumption) | assumption);have q115 : (rd ((rd_T147 l0_0 x3_1).f1) x5_2) < (l0_0.length : Int):=zDe (by first | (with_reducible assumption) | assumption);obtain ⟨ad115,A115_1,c115_1,e115,hx115_0,hx115_1,hl115_1,hi115_1⟩:=at_T147 HR0_0.out (rd ((rd_T147 l0_0 x3_1).f1) x5_2) p115 q115;(try rw [← Nbq26.out] at hx115_0);obtain rfl : ad111 = ad115:=(by injection e115);replace hx115_0:=(HB.out.cell (zBl w _ hx115_0)).trans hx115_0;replace hx115_1:=(HB.out.cell (zBl w _ hx115_1)).trans hx115_1;have HR115_1:=zMk hi115_1;have HC115_1:=zMk hl115_1;clear hi115_1 hl115_1;replace p115:=eq_true p115;replace q115:=eq_true q115))
              (try simp only [Act.put,zS1,zS2,zS3])
              by_cases c27 : (bq26 = true)
              ·subst c27;have H1 : (spec_ArenaOk.l1 k2 x3_1 (wrap64 (x5_2 + 1)) l0_0 ((rd_T147 l0_0 x3_1).f0) ((rd_T147 l0_0 x3_1).f1)) = some r:=by rw [if_pos rfl] at H;exact H
               clear H;have H:=H1;clear H1;have H':=zMk H;clear H
               go_wp2
               go_roundg k2;case measure=>have:=HK1.out;have:=HK2.out;omega
               case rel=>exact ⟨(wrap64 (x5_2 + 1)),(by first | rfl | (simp;done) | (simp [*];done)),H',⟨by have:=HK1.out;have:=HK2.out;omega⟩,⟨bs BK110⟩,⟨bs BK112⟩,⟨hs2 HB GE110 GE112⟩⟩
              replace c27:=Bool.eq_false_iff.mpr c27;subst c27;have H1 : (some false) = some r:=by rw [if_neg (show ¬ (false = true) by decide)] at H;exact H
              clear H;have H:=H1;clear H1;obtain rfl:=Option.some.inj H
              go_wp2
              go_ret
              exact ⟨by first | rfl | (simp [errW_none,errW_some] <;> rfl) | (simp [*,errW_none,errW_some] <;> rfl),hs2 HB GE110 GE112⟩
             rw [if_neg c25] at H;exact absurd H (by simp)
            rw [if_neg c24] at H;exact absurd H (by simp)
           replace c23:=Bool.eq_false_iff.mpr c23;subst c23;have H1 : (some false) = some r:=by rw [if_neg (show ¬ (false = true) by decide)] at H;exact H
           clear H;have H:=H1;clear H1;obtain rfl:=Option.some.inj H;have hnb34:=NB112_110.out;have hnc34:=NB110_112.out;have hcz35_0 : wr.cell? ⟨gb112,0,none⟩ = some (.bool ((rd_T147 l0_0 x3_1).f0)):=(zCl BK112.out 0).trans rfl;have hcz35_1 : wr.cell? ⟨gb112,1,none⟩ = some (.slice A111_1 ((rd_T147 l0_0 x3_1).f1).length c111_1):=(zCl BK112.out 1).trans rfl;have hfz35_0:=zFr BK112.out 0;have hfz35_1:=zFr BK112.out 1;have p113 : 0 ≤ (x5_2 : Int):=zDe (by first | (with_reducible assumption) | assumption);have q113 : x5_2 < (((rd_T147 l0_0 x3_1).f1).length : Int):=zDe (by first | (with_reducible assumption) | assumption);obtain ⟨ad113,e113,hx113_0⟩:=Kd.at_int HR111_1.out x5_2 p113 q113;cases e113;replace hx113_0:=(HB.out.cell (zBl w _ hx113_0)).trans hx113_0;replace p113:=eq_true p113;replace q113:=eq_true q113;go_wp2_with (first | (go_at_call 63;(with_reducible refine (spec_l01In.calls (rd ((rd_T147 l0_0 x3_1).f1) x5_2) 0 (wrap64 (x3_1 - 1)) false _ A22.out).mono ?_);rintro e w' ⟨rfl,⟨nd,rfl⟩⟩))
           go_ret
           exact ⟨by first | rfl | (simp [errW_none,errW_some] <;> rfl) | (simp [*,errW_none,errW_some] <;> rfl),hs2 HB GE110 GE112⟩
          rw [if_neg c12] at H;exact absurd H (by simp)
         rw [if_neg c11] at H;exact absurd H (by simp)
        rw [if_neg c10] at H;have c10b0 : decide (x5_2 < 4) = false:=decide_eq_false c10;clear c10;have H':=zMk H;clear H
        go_wp2
        go_roundg k2;case measure=>have:=HK1.out;have:=HK2.out;omega
        case rel=>exact ⟨(wrap64 (x3_1 + 1)),(by first | rfl | (simp;done) | (simp [*];done)),H',⟨by have:=HK1.out;have:=HK2.out;omega⟩,⟨bs BK110⟩,⟨hs2 HB GE110 GE112⟩⟩
     rw [if_neg c5] at H;have c5b0 : ((((rd_T147 l0_0 x3_1).f1).length : Int) == 4) = false:=beq_eq_false_iff_ne.mpr c5;have c5b1 : ((((rd_T147 l0_0 x3_1).f1).length : Int) != 4) = true:=bne_iff_ne.mpr c5
     (first | rw [c5b0] | rw [c5b1] | (simp only [i64_w,i32_w];rw [c5b0]) | skip)
     obtain rfl:=Option.some.inj H
     go_wp2
     go_ret
     exact ⟨by first | rfl | (simp [errW_none,errW_some] <;> rfl) | (simp [*,errW_none,errW_some] <;> rfl),hs2 HB GE110 GE112⟩
    rw [if_neg c4] at H;exact absurd H (by simp)
   rw [if_neg c3] at H;have c3b0 : decide (x3_1 < (l0_0.length : Int)) = false:=decide_eq_false c3;clear c3;obtain rfl:=Option.some.inj H;have hcz40_0 : wr.cell? ⟨gb110,0,none⟩ = some (.slice A0_0 l0_0.length c0_0):=(zCl BK110.out 0).trans rfl;have hfz40_0:=zFr BK110.out 0
   go_wp2
   go_ret
   exact ⟨by first | rfl | (simp [errW_none,errW_some] <;> rfl) | (simp [*,errW_none,errW_some] <;> rfl),hs1 HB GE110⟩
def spec_l11Root.f (l0_0 : List (S147)) (a1 : Int) : Option (Bool):=if a1 = (-1) then (some true) else ((spec_l01In.f a1 0 (wrap64 ((l0_0.length : Int) - 1))).bind fun t117=>(if t117 = true then (if 0 ≤ a1 then (if a1 < (l0_0.length : Int) then (some (!((rd_T147 l0_0 a1).f0))) else (none)) else (none)) else (some false)))
set_option maxHeartbeats 8000000 in
set_option maxRecDepth 100000 in
theorem spec_l11Root.calls (A0_0 : Option Addr) (c0_0 : Nat) (l0_0 : List (S147)) (a1 : Int) (r : Bool) (w : World) (hr0_0 : Kd.C k147 w A0_0 l0_0.length l0_0) (hc0_0 : l0_0.length ≤ c0_0) (h : spec_l11Root.f l0_0 a1 = some r) :
  Calls Try.prog 100 #[.agg #[.slice A0_0 l0_0.length c0_0],.int .i64 a1] w fun e w'=>e = .returned (.bool r) ∧ Below w.heap.size w w':=by
 have hu34:=Try.underlying34;have HR0_0:=zMk hr0_0;have HC0_0:=zMk hc0_0;clear hr0_0 hc0_0;have HB:=zMk (Below.refl w.heap.size w);have H : (if a1 = (-1) then (some true) else ((spec_l01In.f a1 0 (wrap64 ((l0_0.length : Int) - 1))).bind fun t117=>(if t117 = true then (if 0 ≤ a1 then (if a1 < (l0_0.length : Int) then (some (!((rd_T147 l0_0 a1).f0))) else (none)) else (none)) else (some false)))) = some r:=h;clear h
 go_enter Try.func100,Try.ntmps100
 go_upto_region 1 with (first | ((with_reducible refine gate_dst (N:=2) rfl ?_);(try (refine gate_guard (by rfl) ?_;dsimp only));refine box_event ?hg (N:=2) ?hd (cs:=#[.slice A0_0 l0_0.length c0_0]) (t:=34) ?hr ?_;(case hd=>rfl);(case hg=>rfl);(case hr=>first | (go_simp;done) | (go_simp;rfl));intro gb116 hg w4 hbox hb;have n0_:=zMk (below_step (hs HB) hb);have n1_:=zMk (hbox);have n2_:=zMk ((by rw [hg];exact (below_size (hs HB)) : w.heap.size ≤ gb116));have n3_:=zMk ((by rw [hg];exact (below_size (hs HB)) : w.heap.size ≤ gb116));clear HB;have HB:=n0_;have BK116:=n1_;have GW116:=n2_;have GE116:=n3_;clear n0_ n1_ n2_ n3_;clear hb hbox hg))
 (try simp only [Act.put,zS1,zS2,zS3])
 by_cases c3 : a1 = (-1)
 ·rw [if_pos c3] at H;have c3b0 : (a1 == (-1)) = true:=beq_iff_eq.mpr c3;have c3b1 : (a1 != (-1)) = false:=bne_eq_false_iff_eq.mpr c3;clear c3;obtain rfl:=Option.some.inj H
  go_wp2
  go_ret
  exact ⟨by first | rfl | (simp [errW_none,errW_some] <;> rfl) | (simp [*,errW_none,errW_some] <;> rfl),hs1 HB GE116⟩
 rw [if_neg c3] at H;have c3b0 : (a1 == (-1)) = false:=beq_eq_false_iff_ne.mpr c3;have c3b1 : (a1 != (-1)) = true:=bne_iff_ne.mpr c3;replace H:=Option.bind_eq_some_iff.mp H;obtain ⟨t117,A50,H⟩:=H;replace H : (if t117 = true then (if 0 ≤ a1 then (if a1 < (l0_0.length : Int) then (some (!((rd_T147 l0_0 a1).f0))) else (none)) else (none)) else (some false)) = some r:=H;have A5:=zMk A50;clear A50
 by_cases c6 : t117 = true
 ·subst c6;have H1 : (if 0 ≤ a1 then (if a1 < (l0_0.length : Int) then (some (!((rd_T147 l0_0 a1).f0))) else (none)) else (none)) = some r:=by rw [if_pos rfl] at H;exact H
  clear H;have H:=H1;clear H1
  by_cases c7 : 0 ≤ a1
  ·rw [if_pos c7] at H;have c7b0 : decide (0 ≤ a1) = true:=decide_eq_true c7;clear c7
   by_cases c8 : a1 < (l0_0.length : Int)
   ·rw [if_pos c8] at H;have c8b0 : decide (a1 < (l0_0.length : Int)) = true:=decide_eq_true c8;clear c8;obtain rfl:=Option.some.inj H;have hcz10_0 : w4.cell? ⟨gb116,0,none⟩ = some (.slice A0_0 l0_0.length c0_0):=(zCl BK116.out 0).trans rfl;have hfz10_0:=zFr BK116.out 0;go_wp2_with (first | (go_at_call 63;(with_reducible refine (spec_l01In.calls a1 0 (wrap64 ((l0_0.length : Int) - 1)) true _ A5.out).mono ?_);rintro e w' ⟨rfl,⟨nd,rfl⟩⟩;have p118 : 0 ≤ (a1 : Int):=zDe (by first | (with_reducible assumption) | assumption);have q118 : a1 < (l0_0.length : Int):=zDe (by first | (with_reducible assumption) | assumption);obtain ⟨ad118,A118_1,c118_1,e118,hx118_0,hx118_1,hl118_1,hi118_1⟩:=at_T147 HR0_0.out a1 p118 q118;cases e118;replace hx118_0:=(HB.out.cell (zBl w _ hx118_0)).trans hx118_0;replace hx118_1:=(HB.out.cell (zBl w _ hx118_1)).trans hx118_1;have HR118_1:=zMk hi118_1;have HC118_1:=zMk hl118_1;clear hi118_1 hl118_1;replace p118:=eq_true p118;replace q118:=eq_true q118))
    go_ret
    exact ⟨by first | rfl | (simp [errW_none,errW_some] <;> rfl) | (simp [*,errW_none,errW_some] <;> rfl),hs1 HB GE116⟩
   rw [if_neg c8] at H;exact absurd H (by simp)
  rw [if_neg c7] at H;exact absurd H (by simp)
 replace c6:=Bool.eq_false_iff.mpr c6;subst c6;have H1 : (some false) = some r:=by rw [if_neg (show ¬ (false = true) by decide)] at H;exact H
 clear H;have H:=H1;clear H1;obtain rfl:=Option.some.inj H;have hcz12_0 : w4.cell? ⟨gb116,0,none⟩ = some (.slice A0_0 l0_0.length c0_0):=(zCl BK116.out 0).trans rfl;have hfz12_0:=zFr BK116.out 0;go_wp2_with (first | (go_at_call 63;(with_reducible refine (spec_l01In.calls a1 0 (wrap64 ((l0_0.length : Int) - 1)) false _ A5.out).mono ?_);rintro e w' ⟨rfl,⟨nd,rfl⟩⟩))
 go_ret
 exact ⟨by first | rfl | (simp [errW_none,errW_some] <;> rfl) | (simp [*,errW_none,errW_some] <;> rfl),hs1 HB GE116⟩
def spec_l11Get.f (l0_0 : List (S147)) (a1 : Int) (a2 : Int) : Option (Int):=if a1 < 0 then (some 0) else (if 0 ≤ a1 then (if a1 < (l0_0.length : Int) then (if 0 ≤ (wrap64 (Int.tdiv a2 4)) then (if (wrap64 (Int.tdiv a2 4)) < (((rd_T147 l0_0 a1).f1).length : Int) then (if (rd ((rd_T147 l0_0 a1).f1) (wrap64 (Int.tdiv a2 4))) < 0 then (some 0) else (if 0 ≤ (rd ((rd_T147 l0_0 a1).f1) (wrap64 (Int.tdiv a2 4))) then (if (rd ((rd_T147 l0_0 a1).f1) (wrap64 (Int.tdiv a2 4))) < (l0_0.length : Int) then (if 0 ≤ (Int.tmod a2 4) then (if (Int.tmod a2 4) < (((rd_T147 l0_0 (rd ((rd_T147 l0_0 a1).f1) (wrap64 (Int.tdiv a2 4)))).f1).length : Int) then (some (rd ((rd_T147 l0_0 (rd ((rd_T147 l0_0 a1).f1) (wrap64 (Int.tdiv a2 4)))).f1) (Int.tmod a2 4))) else (none)) else (none)) else (none)) else (none))) else (none)) else (none)) else (none)) else (none))
set_option maxHeartbeats 8000000 in
set_option maxRecDepth 100000 in
theorem spec_l11Get.calls (A0_0 : Option Addr) (c0_0 : Nat) (l0_0 : List (S147)) (a1 : Int) (a2 : Int) (r : Int) (w : World) (hr0_0 : Kd.C k147 w A0_0 l0_0.length l0_0) (hc0_0 : l0_0.length ≤ c0_0) (h : spec_l11Get.f l0_0 a1 a2 = some r) :
  Calls Try.prog 101 #[.agg #[.slice A0_0 l0_0.length c0_0],.int .i64 a1,.int .i64 a2] w fun e w'=>e = .returned (.int .i64 r) ∧ Below w.heap.size w w':=by
 have hu34:=Try.underlying34;have HR0_0:=zMk hr0_0;have HC0_0:=zMk hc0_0;clear hr0_0 hc0_0;have HB:=zMk (Below.refl w.heap.size w);have H : (if a1 < 0 then (some 0) else (if 0 ≤ a1 then (if a1 < (l0_0.length : Int) then (if 0 ≤ (wrap64 (Int.tdiv a2 4)) then (if (wrap64 (Int.tdiv a2 4)) < (((rd_T147 l0_0 a1).f1).length : Int) then (if (rd ((rd_T147 l0_0 a1).f1) (wrap64 (Int.tdiv a2 4))) < 0 then (some 0) else (if 0 ≤ (rd ((rd_T147 l0_0 a1).f1) (wrap64 (Int.tdiv a2 4))) then (if (rd ((rd_T147 l0_0 a1).f1) (wrap64 (Int.tdiv a2 4))) < (l0_0.length : Int) then (if 0 ≤ (Int.tmod a2 4) then (if (Int.tmod a2 4) < (((rd_T147 l0_0 (rd ((rd_T147 l0_0 a1).f1) (wrap64 (Int.tdiv a2 4)))).f1).length : Int) then (some (rd ((rd_T147 l0_0 (rd ((rd_T147 l0_0 a1).f1) (wrap64 (Int.tdiv a2 4)))).f1) (Int.tmod a2 4))) else (none)) else (none)) else (none)) else (none))) else (none)) else (none)) else (none)) else (none))) = some r:=h;clear h
 by_cases c4 : a1 < 0
 ·rw [if_pos c4] at H;have c4b0 : decide (a1 < 0) = true:=decide_eq_true c4;clear c4;obtain rfl:=Option.some.inj H
  go_enter Try.func101,Try.ntmps101
  go_wp2_with (first | ((with_reducible refine gate_dst (N:=3) rfl ?_);refine box_event ?hg (N:=3) ?hd (cs:=#[.slice A0_0 l0_0.length c0_0]) (t:=34) ?hr ?_;(case hd=>rfl);(case hg=>rfl);(case hr=>first | (go_simp;done) | (go_simp;rfl));intro gb119 hg w5 hbox hb;have n0_:=zMk (below_step (hs HB) hb);have n1_:=zMk (hbox);have n2_:=zMk ((by rw [hg];exact (below_size (hs HB)) : w.heap.size ≤ gb119));have n3_:=zMk ((by rw [hg];exact (below_size (hs HB)) : w.heap.size ≤ gb119));clear HB;have HB:=n0_;have BK119:=n1_;have GW119:=n2_;have GE119:=n3_;clear n0_ n1_ n2_ n3_;clear hb hbox hg))
  go_ret
  exact ⟨by first | rfl | (simp [errW_none,errW_some] <;> rfl) | (simp [*,errW_none,errW_some] <;> rfl),hs1 HB GE119⟩
 rw [if_neg c4] at H;have c4b0 : decide (a1 < 0) = false:=decide_eq_false c4;clear c4
 by_cases c6 : 0 ≤ a1
 ·rw [if_pos c6] at H;have c6b0 : decide (0 ≤ a1) = true:=decide_eq_true c6;clear c6
  by_cases c7 : a1 < (l0_0.length : Int)
  ·rw [if_pos c7] at H;have c7b0 : decide (a1 < (l0_0.length : Int)) = true:=decide_eq_true c7;clear c7;obtain ⟨ji8,hji8⟩ : ∃ j_ : Int,(wrap64 (Int.tdiv a2 4)) = j_:=⟨_,rfl⟩;replace H : (if 0 ≤ (ji8) then (if (ji8) < (((rd_T147 l0_0 a1).f1).length : Int) then (if (rd ((rd_T147 l0_0 a1).f1) (ji8)) < 0 then (some 0) else (if 0 ≤ (rd ((rd_T147 l0_0 a1).f1) (ji8)) then (if (rd ((rd_T147 l0_0 a1).f1) (ji8)) < (l0_0.length : Int) then (if 0 ≤ (Int.tmod a2 4) then (if (Int.tmod a2 4) < (((rd_T147 l0_0 (rd ((rd_T147 l0_0 a1).f1) (ji8))).f1).length : Int) then (some (rd ((rd_T147 l0_0 (rd ((rd_T147 l0_0 a1).f1) (ji8))).f1) (Int.tmod a2 4))) else (none)) else (none)) else (none)) else (none))) else (none)) else (none)) = some r:=by first | (rw [hji8] at H;exact H) | (simp only [hji8] at H ⊢;exact H)
   have hji8w : (IntKind.i64.wrap (Int.tdiv a2 4)) = ji8:=(i64_w _).trans hji8
   by_cases c9 : 0 ≤ (ji8)
   ·rw [if_pos c9] at H;have c9b0 : decide (0 ≤ (ji8)) = true:=decide_eq_true c9;clear c9
    by_cases c10 : (ji8) < (((rd_T147 l0_0 a1).f1).length : Int)
    ·rw [if_pos c10] at H;have c10b0 : decide ((ji8) < (((rd_T147 l0_0 a1).f1).length : Int)) = true:=decide_eq_true c10;clear c10
     by_cases c11 : (rd ((rd_T147 l0_0 a1).f1) (ji8)) < 0
     ·rw [if_pos c11] at H;have c11b0 : decide ((rd ((rd_T147 l0_0 a1).f1) (ji8)) < 0) = true:=decide_eq_true c11;clear c11;obtain rfl:=Option.some.inj H
      go_enter Try.func101,Try.ntmps101
      go_wp2_with (first | ((with_reducible refine gate_dst (N:=3) rfl ?_);refine box_event ?hg (N:=3) ?hd (cs:=#[.slice A0_0 l0_0.length c0_0]) (t:=34) ?hr ?_;(case hd=>rfl);(case hg=>rfl);(case hr=>first | (go_simp;done) | (go_simp;rfl));intro gb119 hg w12 hbox hb;have n0_:=zMk (below_step (hs HB) hb);have n1_:=zMk (hbox);have n2_:=zMk ((by rw [hg];exact (below_size (hs HB)) : w.heap.size ≤ gb119));have n3_:=zMk ((by rw [hg];exact (below_size (hs HB)) : w.heap.size ≤ gb119));clear HB;have HB:=n0_;have BK119:=n1_;have GW119:=n2_;have GE119:=n3_;clear n0_ n1_ n2_ n3_;clear hb hbox hg;have hcz13_0 : w12.cell? ⟨gb119,0,none⟩ = some (.slice A0_0 l0_0.length c0_0):=(zCl BK119.out 0).trans rfl;have hfz13_0:=zFr BK119.out 0;have p120 : 0 ≤ (a1 : Int):=zDe (by first | (with_reducible assumption) | assumption);have q120 : a1 < (l0_0.length : Int):=zDe (by first | (with_reducible assumption) | assumption);obtain ⟨ad120,A120_1,c120_1,e120,hx120_0,hx120_1,hl120_1,hi120_1⟩:=at_T147 HR0_0.out a1 p120 q120;cases e120;replace hx120_0:=(HB.out.cell (zBl w _ hx120_0)).trans hx120_0;replace hx120_1:=(HB.out.cell (zBl w _ hx120_1)).trans hx120_1;have HR120_1:=zMk hi120_1;have HC120_1:=zMk hl120_1;clear hi120_1 hl120_1;replace p120:=eq_true p120;replace q120:=eq_true q120;have p121 : 0 ≤ ((ji8) : Int):=zDe (by first | (with_reducible assumption) | assumption);have q121 : (ji8) < (((rd_T147 l0_0 a1).f1).length : Int):=zDe (by first | (with_reducible assumption) | assumption);obtain ⟨ad121,e121,hx121_0⟩:=Kd.at_int HR120_1.out (ji8) p121 q121;cases e121;replace hx121_0:=(HB.out.cell (zBl w _ hx121_0)).trans hx121_0;replace p121:=eq_true p121;replace q121:=eq_true q121))
      go_ret
      exact ⟨by first | rfl | (simp [errW_none,errW_some] <;> rfl) | (simp only [← hji8];first | rfl | (simp [errW_none,errW_some] <;> rfl)) | (simp [*,errW_none,errW_some] <;> rfl),hs1 HB GE119⟩
     rw [if_neg c11] at H;have c11b0 : decide ((rd ((rd_T147 l0_0 a1).f1) (ji8)) < 0) = false:=decide_eq_false c11;clear c11
     by_cases c14 : 0 ≤ (rd ((rd_T147 l0_0 a1).f1) (ji8))
     ·rw [if_pos c14] at H;have c14b0 : decide (0 ≤ (rd ((rd_T147 l0_0 a1).f1) (ji8))) = true:=decide_eq_true c14;clear c14
      by_cases c15 : (rd ((rd_T147 l0_0 a1).f1) (ji8)) < (l0_0.length : Int)
      ·rw [if_pos c15] at H;have c15b0 : decide ((rd ((rd_T147 l0_0 a1).f1) (ji8)) < (l0_0.length : Int)) = true:=decide_eq_true c15;clear c15;obtain ⟨ji16,hji16⟩ : ∃ j_ : Int,(Int.tmod a2 4) = j_:=⟨_,rfl⟩;replace H : (if 0 ≤ (ji16) then (if (ji16) < (((rd_T147 l0_0 (rd ((rd_T147 l0_0 a1).f1) (ji8))).f1).length : Int) then (some (rd ((rd_T147 l0_0 (rd ((rd_T147 l0_0 a1).f1) (ji8))).f1) (ji16))) else (none)) else (none)) = some r:=by first | (rw [hji16] at H;exact H) | (simp only [hji16] at H ⊢;exact H)
       by_cases c17 : 0 ≤ (ji16)
       ·rw [if_pos c17] at H;have c17b0 : decide (0 ≤ (ji16)) = true:=decide_eq_true c17;clear c17
        by_cases c18 : (ji16) < (((rd_T147 l0_0 (rd ((rd_T147 l0_0 a1).f1) (ji8))).f1).length : Int)
        ·rw [if_pos c18] at H;have c18b0 : decide ((ji16) < (((rd_T147 l0_0 (rd ((rd_T147 l0_0 a1).f1) (ji8))).f1).length : Int)) = true:=decide_eq_true c18;clear c18;obtain rfl:=Option.some.inj H
         go_enter Try.func101,Try.ntmps101
         go_wp2_with (first | ((with_reducible refine gate_dst (N:=3) rfl ?_);refine box_event ?hg (N:=3) ?hd (cs:=#[.slice A0_0 l0_0.length c0_0]) (t:=34) ?hr ?_;(case hd=>rfl);(case hg=>rfl);(case hr=>first | (go_simp;done) | (go_simp;rfl));intro gb119 hg w19 hbox hb;have n0_:=zMk (below_step (hs HB) hb);have n1_:=zMk (hbox);have n2_:=zMk ((by rw [hg];exact (below_size (hs HB)) : w.heap.size ≤ gb119));have n3_:=zMk ((by rw [hg];exact (below_size (hs HB)) : w.heap.size ≤ gb119));clear HB;have HB:=n0_;have BK119:=n1_;have GW119:=n2_;have GE119:=n3_;clear n0_ n1_ n2_ n3_;clear hb hbox hg;have hcz20_0 : w19.cell? ⟨gb119,0,none⟩ = some (.slice A0_0 l0_0.length c0_0):=(zCl BK119.out 0).trans rfl;have hfz20_0:=zFr BK119.out 0;have p120 : 0 ≤ (a1 : Int):=zDe (by first | (with_reducible assumption) | assumption);have q120 : a1 < (l0_0.length : Int):=zDe (by first | (with_reducible assumption) | assumption);obtain ⟨ad120,A120_1,c120_1,e120,hx120_0,hx120_1,hl120_1,hi120_1⟩:=at_T147 HR0_0.out a1 p120 q120;cases e120;replace hx120_0:=(HB.out.cell (zBl w _ hx120_0)).trans hx120_0;replace hx120_1:=(HB.out.cell (zBl w _ hx120_1)).trans hx120_1;have HR120_1:=zMk hi120_1;have HC120_1:=zMk hl120_1;clear hi120_1 hl120_1;replace p120:=eq_true p120;replace q120:=eq_true q120;have p121 : 0 ≤ ((ji8) : Int):=zDe (by first | (with_reducible assumption) | assumption);have q121 : (ji8) < (((rd_T147 l0_0 a1).f1).length : Int):=zDe (by first | (with_reducible assumption) | assumption);obtain ⟨ad121,e121,hx121_0⟩:=Kd.at_int HR120_1.out (ji8) p121 q121;cases e121;replace hx121_0:=(HB.out.cell (zBl w _ hx121_0)).trans hx121_0;replace p121:=eq_true p121;replace q121:=eq_true q121;have p122 : 0 ≤ ((rd ((rd_T147 l0_0 a1).f1) (ji8)) : Int):=zDe (by first | (with_reducible assumption) | assumption);have q122 : (rd ((rd_T147 l0_0 a1).f1) (ji8)) < (l0_0.length : Int):=zDe (by first | (with_reducible assumption) | assumption);obtain ⟨ad122,A122_1,c122_1,e122,hx122_0,hx122_1,hl122_1,hi122_1⟩:=at_T147 HR0_0.out (rd ((rd_T147 l0_0 a1).f1) (ji8)) p122 q122;obtain rfl : ad120 = ad122:=(by injection e122);replace hx122_0:=(HB.out.cell (zBl w _ hx122_0)).trans hx122_0;replace hx122_1:=(HB.out.cell (zBl w _ hx122_1)).trans hx122_1;have HR122_1:=zMk hi122_1;have HC122_1:=zMk hl122_1;clear hi122_1 hl122_1;replace p122:=eq_true p122;replace q122:=eq_true q122;have p123 : 0 ≤ ((ji16) : Int):=zDe (by first | (with_reducible assumption) | assumption);have q123 : (ji16) < (((rd_T147 l0_0 (rd ((rd_T147 l0_0 a1).f1) (ji8))).f1).length : Int):=zDe (by first | (with_reducible assumption) | assumption);obtain ⟨ad123,e123,hx123_0⟩:=Kd.at_int HR122_1.out (ji16) p123 q123;cases e123;replace hx123_0:=(HB.out.cell (zBl w _ hx123_0)).trans hx123_0;replace p123:=eq_true p123;replace q123:=eq_true q123))
         go_ret
         exact ⟨by first | rfl | (simp [errW_none,errW_some] <;> rfl) | (simp only [← hji8,← hji16];first | rfl | (simp [errW_none,errW_some] <;> rfl)) | (simp [*,errW_none,errW_some] <;> rfl),hs1 HB GE119⟩
        rw [if_neg c18] at H;exact absurd H (by simp)
       rw [if_neg c17] at H;exact absurd H (by simp)
      rw [if_neg c15] at H;exact absurd H (by simp)
     rw [if_neg c14] at H;exact absurd H (by simp)
    rw [if_neg c10] at H;exact absurd H (by simp)
   rw [if_neg c9] at H;exact absurd H (by simp)
  rw [if_neg c7] at H;exact absurd H (by simp)
 rw [if_neg c6] at H;exact absurd H (by simp)
def spec_GetAt.f (k : Nat) (l0_0 : List (S147)) (a1 : Int) (a2 : Int) : Option (Int):=(spec_ArenaOk.f k l0_0).bind fun t125=>(if t125 = true then ((spec_l11Root.f l0_0 a1).bind fun t126=>(if t126 = true then ((spec_l01In.f a2 0 15).bind fun t127=>(if t127 = true then ((spec_l11Get.f l0_0 a1 a2).bind fun t128=>(some t128)) else (some 0))) else (some 0))) else (some 0))
theorem spec_GetAt.mono : ∀ a0 a1 a2 k,LeO (spec_GetAt.f k a0 a1 a2) (spec_GetAt.f (k + 1) a0 a1 a2):=by
 intro a0 a1 a2 k;unfold spec_GetAt.f
 repeat' first
   | (with_reducible exact spec_ArenaOk.mono _ _)
   | (with_reducible exact LeO.refl _)
   | (with_reducible exact LeO.none _)
   | (with_reducible refine LeO.ite ?_ ?_)
   | (with_reducible refine LeO.bind ?_ (fun _=>?_))
   | exact spec_ArenaOk.mono _ _
   | exact LeO.none _
   | refine LeO.ite ?_ ?_
   | refine LeO.bind ?_ (fun _=>?_)
set_option maxHeartbeats 8000000 in
set_option maxRecDepth 100000 in
theorem spec_GetAt.calls (k : Nat) (A0_0 : Option Addr) (c0_0 : Nat) (l0_0 : List (S147)) (a1 : Int) (a2 : Int) (r : Int) (w : World) (hr0_0 : Kd.C k147 w A0_0 l0_0.length l0_0) (hc0_0 : l0_0.length ≤ c0_0) (h : spec_GetAt.f k l0_0 a1 a2 = some r) :
  Calls Try.prog 77 #[.agg #[.slice A0_0 l0_0.length c0_0],.int .i64 a1,.int .i64 a2] w fun e w'=>e = .returned (.int .i64 r) ∧ Below w.heap.size w w':=by
 have hu34:=Try.underlying34;have HR0_0:=zMk hr0_0;have HC0_0:=zMk hc0_0;clear hr0_0 hc0_0;have HB:=zMk (Below.refl w.heap.size w);have H : ((spec_ArenaOk.f k l0_0).bind fun t125=>(if t125 = true then ((spec_l11Root.f l0_0 a1).bind fun t126=>(if t126 = true then ((spec_l01In.f a2 0 15).bind fun t127=>(if t127 = true then ((spec_l11Get.f l0_0 a1 a2).bind fun t128=>(some t128)) else (some 0))) else (some 0))) else (some 0))) = some r:=h;clear h;replace H:=Option.bind_eq_some_iff.mp H;obtain ⟨t125,A40,H⟩:=H;replace H : (if t125 = true then ((spec_l11Root.f l0_0 a1).bind fun t126=>(if t126 = true then ((spec_l01In.f a2 0 15).bind fun t127=>(if t127 = true then ((spec_l11Get.f l0_0 a1 a2).bind fun t128=>(some t128)) else (some 0))) else (some 0))) else (some 0)) = some r:=H;have A4:=zMk A40;clear A40
 go_enter Try.func77,Try.ntmps77
 go_upto_region 1 with (first | ((with_reducible refine gate_dst (N:=3) rfl ?_);refine box_event ?hg (N:=3) ?hd (cs:=#[.slice A0_0 l0_0.length c0_0]) (t:=34) ?hr ?_;(case hd=>rfl);(case hg=>rfl);(case hr=>first | (go_simp;done) | (go_simp;rfl));intro gb124 hg w11 hbox hb;have n0_:=zMk (below_step (hs HB) hb);have n1_:=zMk (hbox);have n2_:=zMk ((by rw [hg];exact (below_size (hs HB)) : w.heap.size ≤ gb124));have n3_:=zMk ((by rw [hg];exact (below_size (hs HB)) : w.heap.size ≤ gb124));clear HB;have HB:=n0_;have BK124:=n1_;have GW124:=n2_;have GE124:=n3_;clear n0_ n1_ n2_ n3_;clear hb hbox hg;have hcz12_0 : w11.cell? ⟨gb124,0,none⟩ = some (.slice A0_0 l0_0.length c0_0):=(zCl BK124.out 0).trans rfl;have hfz12_0:=zFr BK124.out 0))
 (try simp only [Act.put,zS1,zS2,zS3])
 by_cases c5 : t125 = true
 ·subst c5;have H1 : ((spec_l11Root.f l0_0 a1).bind fun t126=>(if t126 = true then ((spec_l01In.f a2 0 15).bind fun t127=>(if t127 = true then ((spec_l11Get.f l0_0 a1 a2).bind fun t128=>(some t128)) else (some 0))) else (some 0))) = some r:=by rw [if_pos rfl] at H;exact H
  clear H;have H:=H1;clear H1;replace H:=Option.bind_eq_some_iff.mp H;obtain ⟨t126,A60,H⟩:=H;replace H : (if t126 = true then ((spec_l01In.f a2 0 15).bind fun t127=>(if t127 = true then ((spec_l11Get.f l0_0 a1 a2).bind fun t128=>(some t128)) else (some 0))) else (some 0)) = some r:=H;have A6:=zMk A60;clear A60
  by_cases c7 : t126 = true
  ·subst c7;have H1 : ((spec_l01In.f a2 0 15).bind fun t127=>(if t127 = true then ((spec_l11Get.f l0_0 a1 a2).bind fun t128=>(some t128)) else (some 0))) = some r:=by rw [if_pos rfl] at H;exact H
   clear H;have H:=H1;clear H1;replace H:=Option.bind_eq_some_iff.mp H;obtain ⟨t127,A80,H⟩:=H;replace H : (if t127 = true then ((spec_l11Get.f l0_0 a1 a2).bind fun t128=>(some t128)) else (some 0)) = some r:=H;have A8:=zMk A80;clear A80
   go_upto_if 20 with (first | ((with_reducible refine gate_callee (f:=99) rfl ?_);refine goesL_ (some 8) rfl rfl Try.func99 (by kernel_rfl) rfl #[.agg #[.slice A0_0 l0_0.length c0_0]] rfl (by (try simp only [List.map_toArray,List.map_cons,List.map_nil]);first | done | rfl | (simp only [List.length_drop,List.length_take];rfl)) ?_;(with_reducible refine (spec_ArenaOk.calls k _ _ l0_0 true _ ?side1 ?side2 A4.out).mono ?_);(case side1=>repeat (first | exact (Kd.C_below HR0_0.out HB.out) | (with_reducible refine Kd.C_alloc ?_ _) | (with_reducible refine Kd.C_drewN ?_ _) | (with_reducible refine Kd.C_drew ?_)));(case side2=>exact HC0_0.out);rintro e w13 ⟨rfl,hb⟩;refine ⟨_,rfl,?_⟩;have n0_:=zMk (blk_below (g:=gb124) (o:=.cells #[.slice A0_0 l0_0.length c0_0] 34 (0,0)) (bs BK124) hb);have n1_:=zMk (below_step (hs1 HB GE124) hb);clear BK124;clear HB;have BK124:=n0_;have HB:=n1_;clear n0_ n1_;(try clear hb);(try clear hb2);(try clear hk);(try clear hi);have hcz14_0 : w13.cell? ⟨gb124,0,none⟩ = some (.slice A0_0 l0_0.length c0_0):=(zCl BK124.out 0).trans rfl;have hfz14_0:=zFr BK124.out 0) | (go_at_call 100;(with_reducible refine (spec_l11Root.calls _ _ l0_0 a1 true _ ?side1 ?side2 A6.out).mono ?_);(case side1=>repeat (first | exact (Kd.C_below HR0_0.out HB.out) | (with_reducible refine Kd.C_alloc ?_ _) | (with_reducible refine Kd.C_drewN ?_ _) | (with_reducible refine Kd.C_drew ?_)));(case side2=>exact HC0_0.out);rintro e w15 ⟨rfl,hb⟩;have n0_:=zMk (blk_below (g:=gb124) (o:=.cells #[.slice A0_0 l0_0.length c0_0] 34 (0,0)) (bs BK124) hb);have n1_:=zMk (below_step (hs1 HB GE124) hb);clear BK124;clear HB;have BK124:=n0_;have HB:=n1_;clear n0_ n1_;(try clear hb);(try clear hb2);(try clear hk);(try clear hi)) | (go_at_call 63;(with_reducible refine (spec_l01In.calls a2 0 15 t127 _ A8.out).mono ?_);rintro e w' ⟨rfl,⟨nd,rfl⟩⟩))
   (try simp only [Act.put,zS1,zS2,zS3])
   by_cases c9 : t127 = true
   ·subst c9;have H1 : ((spec_l11Get.f l0_0 a1 a2).bind fun t128=>(some t128)) = some r:=by rw [if_pos rfl] at H;exact H
    clear H;have H:=H1;clear H1;replace H:=Option.bind_eq_some_iff.mp H;obtain ⟨t128,A100,H⟩:=H;replace H : (some t128) = some r:=H;have A10:=zMk A100;clear A100;obtain rfl:=Option.some.inj H;have hcz16_0 : w15.cell? ⟨gb124,0,none⟩ = some (.slice A0_0 l0_0.length c0_0):=(zCl BK124.out 0).trans rfl;have hfz16_0:=zFr BK124.out 0;go_wp2_with (first | ((with_reducible refine gate_callee (f:=101) rfl ?_);refine goesL_ (some 24) rfl rfl Try.func101 (by kernel_rfl) rfl #[.agg #[.slice A0_0 l0_0.length c0_0],.int .i64 a1,.int .i64 a2] rfl (by (try simp only [List.map_toArray,List.map_cons,List.map_nil]);first | done | rfl | (simp only [List.length_drop,List.length_take];rfl)) ?_;(with_reducible refine (spec_l11Get.calls _ _ l0_0 a1 a2 t128 _ ?side1 ?side2 A10.out).mono ?_);(case side1=>repeat (first | exact (Kd.C_below HR0_0.out (hs1 HB GE124)) | (with_reducible refine Kd.C_alloc ?_ _) | (with_reducible refine Kd.C_drewN ?_ _) | (with_reducible refine Kd.C_drew ?_)));(case side2=>exact HC0_0.out);rintro e w17 ⟨rfl,hb⟩;refine ⟨_,rfl,?_⟩;have n0_:=zMk (blk_below (g:=gb124) (o:=.cells #[.slice A0_0 l0_0.length c0_0] 34 (0,0)) (bs BK124) hb);have n1_:=zMk (below_step (hs1 HB GE124) hb);clear BK124;clear HB;have BK124:=n0_;have HB:=n1_;clear n0_ n1_;(try clear hb);(try clear hb2);(try clear hk);(try clear hi)))
    go_ret
    exact ⟨by first | rfl | (simp [errW_none,errW_some] <;> rfl) | (simp [*,errW_none,errW_some] <;> rfl),hs1 HB GE124⟩
   replace c9:=Bool.eq_false_iff.mpr c9;subst c9;have H1 : (some 0) = some r:=by rw [if_neg (show ¬ (false = true) by decide)] at H;exact H
   clear H;have H:=H1;clear H1;obtain rfl:=Option.some.inj H
   go_wp2
   go_ret
   exact ⟨by first | rfl | (simp [errW_none,errW_some] <;> rfl) | (simp [*,errW_none,errW_some] <;> rfl),hs1 HB GE124⟩
  replace c7:=Bool.eq_false_iff.mpr c7;subst c7;have H1 : (some 0) = some r:=by rw [if_neg (show ¬ (false = true) by decide)] at H;exact H
  clear H;have H:=H1;clear H1;obtain rfl:=Option.some.inj H;go_wp2_with (first | ((with_reducible refine gate_callee (f:=99) rfl ?_);refine goesL_ (some 8) rfl rfl Try.func99 (by kernel_rfl) rfl #[.agg #[.slice A0_0 l0_0.length c0_0]] rfl (by (try simp only [List.map_toArray,List.map_cons,List.map_nil]);first | done | rfl | (simp only [List.length_drop,List.length_take];rfl)) ?_;(with_reducible refine (spec_ArenaOk.calls k _ _ l0_0 true _ ?side1 ?side2 A4.out).mono ?_);(case side1=>repeat (first | exact (Kd.C_below HR0_0.out HB.out) | (with_reducible refine Kd.C_alloc ?_ _) | (with_reducible refine Kd.C_drewN ?_ _) | (with_reducible refine Kd.C_drew ?_)));(case side2=>exact HC0_0.out);rintro e w25 ⟨rfl,hb⟩;refine ⟨_,rfl,?_⟩;have n0_:=zMk (blk_below (g:=gb124) (o:=.cells #[.slice A0_0 l0_0.length c0_0] 34 (0,0)) (bs BK124) hb);have n1_:=zMk (below_step (hs1 HB GE124) hb);clear BK124;clear HB;have BK124:=n0_;have HB:=n1_;clear n0_ n1_;(try clear hb);(try clear hb2);(try clear hk);(try clear hi);have hcz26_0 : w25.cell? ⟨gb124,0,none⟩ = some (.slice A0_0 l0_0.length c0_0):=(zCl BK124.out 0).trans rfl;have hfz26_0:=zFr BK124.out 0) | (go_at_call 100;(with_reducible refine (spec_l11Root.calls _ _ l0_0 a1 false _ ?side1 ?side2 A6.out).mono ?_);(case side1=>repeat (first | exact (Kd.C_below HR0_0.out HB.out) | (with_reducible refine Kd.C_alloc ?_ _) | (with_reducible refine Kd.C_drewN ?_ _) | (with_reducible refine Kd.C_drew ?_)));(case side2=>exact HC0_0.out);rintro e w27 ⟨rfl,hb⟩;have n0_:=zMk (blk_below (g:=gb124) (o:=.cells #[.slice A0_0 l0_0.length c0_0] 34 (0,0)) (bs BK124) hb);have n1_:=zMk (below_step (hs1 HB GE124) hb);clear BK124;clear HB;have BK124:=n0_;have HB:=n1_;clear n0_ n1_;(try clear hb);(try clear hb2);(try clear hk);(try clear hi)))
  go_ret
  exact ⟨by first | rfl | (simp [errW_none,errW_some] <;> rfl) | (simp [*,errW_none,errW_some] <;> rfl),hs1 HB GE124⟩
 replace c5:=Bool.eq_false_iff.mpr c5;subst c5;have H1 : (some 0) = some r:=by rw [if_neg (show ¬ (false = true) by decide)] at H;exact H
 clear H;have H:=H1;clear H1;obtain rfl:=Option.some.inj H;go_wp2_with (first | ((with_reducible refine gate_callee (f:=99) rfl ?_);refine goesL_ (some 8) rfl rfl Try.func99 (by kernel_rfl) rfl #[.agg #[.slice A0_0 l0_0.length c0_0]] rfl (by (try simp only [List.map_toArray,List.map_cons,List.map_nil]);first | done | rfl | (simp only [List.length_drop,List.length_take];rfl)) ?_;(with_reducible refine (spec_ArenaOk.calls k _ _ l0_0 false _ ?side1 ?side2 A4.out).mono ?_);(case side1=>repeat (first | exact (Kd.C_below HR0_0.out HB.out) | (with_reducible refine Kd.C_alloc ?_ _) | (with_reducible refine Kd.C_drewN ?_ _) | (with_reducible refine Kd.C_drew ?_)));(case side2=>exact HC0_0.out);rintro e w30 ⟨rfl,hb⟩;refine ⟨_,rfl,?_⟩;have n0_:=zMk (blk_below (g:=gb124) (o:=.cells #[.slice A0_0 l0_0.length c0_0] 34 (0,0)) (bs BK124) hb);have n1_:=zMk (below_step (hs1 HB GE124) hb);clear BK124;clear HB;have BK124:=n0_;have HB:=n1_;clear n0_ n1_;(try clear hb);(try clear hb2);(try clear hk);(try clear hi)))
 go_ret
 exact ⟨by first | rfl | (simp [errW_none,errW_some] <;> rfl) | (simp [*,errW_none,errW_some] <;> rfl),hs1 HB GE124⟩
def spec_AllAt.l0 : Nat → Int → List Int → Int → List (S147) → Option (List Int)
 | 0,_,_,_,_=>none
 | k + 1,x1,x5,x6,x130000=>if x6 < 16 then ((spec_GetAt.f k x130000 x1 x6).bind fun t133=>(if x5.length < 17592186044416 then (spec_AllAt.l0 k x1 (x5 ++ [t133]) (wrap64 (x6 + 1)) x130000) else (none))) else (some x5)
def spec_AllAt.f (k : Nat) (l0_0 : List (S147)) (a1 : Int) : Option (List Int):=spec_AllAt.l0 k a1 (([] : List Int)) 0 l0_0
theorem spec_AllAt.mono_l : ∀ k,(∀ y0 y1 y2 y3,LeO (spec_AllAt.l0 k y0 y1 y2 y3) (spec_AllAt.l0 (k + 1) y0 y1 y2 y3))
 | 0=>fun _ _ _ _ r h=>by simp [spec_AllAt.l0] at h
 | k + 1=>by
  have ih0:=spec_AllAt.mono_l k;intro y0 y1 y2 y3;unfold spec_AllAt.l0
  repeat' first
  | (with_reducible exact ih0 _ _ _ _)
  | (with_reducible exact spec_GetAt.mono _ _ _ _)
  | (with_reducible exact LeO.refl _)
  | (with_reducible exact LeO.none _)
  | (with_reducible refine LeO.ite ?_ ?_)
  | (with_reducible refine LeO.bind ?_ (fun _=>?_))
  | exact ih0 _ _ _ _
  | exact spec_GetAt.mono _ _ _ _
  | exact LeO.none _
  | refine LeO.ite ?_ ?_
  | refine LeO.bind ?_ (fun _=>?_)
theorem spec_AllAt.mono : ∀ a0 a1 k,LeO (spec_AllAt.f k a0 a1) (spec_AllAt.f (k + 1) a0 a1):=by
 intro a0 a1 k;have ih0:=spec_AllAt.mono_l k;unfold spec_AllAt.f
 repeat' first
   | (with_reducible exact ih0 _ _ _ _)
   | (with_reducible exact spec_GetAt.mono _ _ _ _)
   | (with_reducible exact LeO.refl _)
   | (with_reducible exact LeO.none _)
   | (with_reducible refine LeO.ite ?_ ?_)
   | (with_reducible refine LeO.bind ?_ (fun _=>?_))
   | exact ih0 _ _ _ _
   | exact spec_GetAt.mono _ _ _ _
   | exact LeO.none _
   | refine LeO.ite ?_ ?_
   | refine LeO.bind ?_ (fun _=>?_)
set_option maxHeartbeats 8000000 in
set_option maxRecDepth 100000 in
theorem spec_AllAt.calls (k : Nat) (A0_0 : Option Addr) (c0_0 : Nat) (l0_0 : List (S147)) (a1 : Int) (r : List Int) (w : World) (hr0_0 : Kd.C k147 w A0_0 l0_0.length l0_0) (hc0_0 : l0_0.length ≤ c0_0) (h : spec_AllAt.f k l0_0 a1 = some r) :
  Calls Try.prog 44 #[.agg #[.slice A0_0 l0_0.length c0_0],.int .i64 a1] w fun e w'=>∃ v0_ : Value,e = .returned (v0_) ∧ Kd.R (Kd.int .i64) 3 w' w.heap.size (fun _=>True) v0_ r ∧ Below w.heap.size w w':=by
 have hu34:=Try.underlying34;have HR0_0:=zMk hr0_0;have HC0_0:=zMk hc0_0;clear hr0_0 hc0_0;have HB:=zMk (Below.refl w.heap.size w);have H : (spec_AllAt.l0 k a1 (([] : List Int)) 0 l0_0) = some r:=h;clear h;obtain ⟨y130,hy130⟩ : ∃ y_ : List Int,y_ = (([] : List Int)):=⟨_,rfl⟩;replace H : (spec_AllAt.l0 k a1 y130 0 l0_0) = some r:=by first | (rw [hy130];with_reducible exact H) | (have H2_:=(Option.bind_some _ _).symm.trans H;rw [hy130];with_reducible exact H2_) | (have H2_:=(Option.bind_some _ _).symm.trans H;with_reducible exact H2_) | with_reducible exact H | (rw [hy130];exact H) | exact H
 have Ny130:=zMk hy130;clear hy130;have H':=zMk H;clear H
 go_enter Try.func44,Try.ntmps44
 go_wp2_with (first | ((with_reducible refine gate_dst (N:=2) rfl ?_);refine box_event ?hg (N:=2) ?hd (cs:=#[.slice A0_0 l0_0.length c0_0]) (t:=34) ?hr ?_;(case hd=>rfl);(case hg=>rfl);(case hr=>first | (go_simp;done) | (go_simp;rfl));intro gb129 hg w3 hbox hb;have n0_:=zMk (below_step (hs HB) hb);have n1_:=zMk (hbox);have n2_:=zMk ((by rw [hg];exact (below_size (hs HB)) : w.heap.size ≤ gb129));have n3_:=zMk ((by rw [hg];exact (below_size (hs HB)) : w.heap.size ≤ gb129));clear HB;have HB:=n0_;have BK129:=n1_;have GW129:=n2_;have GE129:=n3_;clear n0_ n1_ n2_ n3_;clear hb hbox hg) | ((with_reducible refine gate_dst (N:=7) rfl ?_);refine Kd.R_lit (Kd.int .i64) _ 3 ?hg (N:=7) ?hd (xs:=([] : List Int)) (inner:=[]) (ok:=fun _=>True) (okp:=fun _=>True) ?hr ?hp (fun _ hk=>hk) trivial (Below.refl _ _) (Nat.le_refl _) (by simp) ?_;(case hd=>rfl);(case hg=>rfl);(case hr=>first | (go_simp;done) | (go_simp;rfl));(case hp=>exact (Reps.none _ _));intro v131 w4 ho5 hb hg_ hnew_;clear hg_ hnew_;(first | rw [← Ny130.out] at ho5 | (simp only [Int.reduceToNat] at ho5;rw [← Ny130.out] at ho5));have n0_:=zMk (Kd.R_lower ho5 (below_size (hs1 HB GE129)));have n1_:=zMk (blk_below (g:=gb129) (o:=.cells #[.slice A0_0 l0_0.length c0_0] 34 (0,0)) (bs BK129) hb);have n2_:=zMk (below_step (hs1 HB GE129) hb);clear BK129;clear HB;have HO132:=n0_;have BK129:=n1_;have HB:=n2_;clear n0_ n1_ n2_;clear hb ho5));go_loopg [5,6] k (fun kq v5 v6 w'=>∃ (x5_1 : List Int) (x6_1 : Int),v6 = .int .i64 x6_1 ∧ Aside0 (spec_AllAt.l0 kq a1 x5_1 x6_1 l0_0 = some r) ∧ Aside0 (kq ≤ k) ∧ Aside0 (Kd.R (Kd.int .i64) 3 w' w.heap.size (fun _=>True) v5 x5_1) ∧ Aside0 (w'.heap[gb129]? = some (.cells #[(.slice A0_0 l0_0.length c0_0)] 34 (0,0))) ∧ Aside0 (Below w.heap.size w w'));case atStart=>exact ⟨(y130),(0),(by first | rfl | (simp;done) | (simp [*];done)),H',⟨Nat.le_refl _⟩,⟨rs HO132⟩,⟨bs BK129⟩,⟨hs1 HB GE129⟩⟩
 case round =>
  clear H'
  try clear p2
  try clear c4
  obtain ⟨x5_1,x6_1,rfl,HA,HK1,HO_5,BK129,HB⟩:=hrel;cases gk with
  | zero=>exact absurd HA.out (by simp [spec_AllAt.l0])
  | succ k1 =>
   have H:=HA.out;clear HA;simp only [spec_AllAt.l0] at H
   by_cases c6 : x6_1 < 16
   ·rw [if_pos c6] at H;have c6b0 : decide (x6_1 < 16) = true:=decide_eq_true c6;clear c6;replace H:=Option.bind_eq_some_iff.mp H;obtain ⟨t133,A70,H⟩:=H;replace H : (if x5_1.length < 17592186044416 then (spec_AllAt.l0 k1 a1 (x5_1 ++ [t133]) (wrap64 (x6_1 + 1)) l0_0) else (none)) = some r:=H;have A7:=zMk A70;clear A70
    by_cases c8 : x5_1.length < 17592186044416
    ·rw [if_pos c8] at H;have LMc8:=zMk c8;clear c8;obtain ⟨y134,hy134⟩ : ∃ y_ : List Int,y_ = (x5_1 ++ [t133]):=⟨_,rfl⟩;replace H : (spec_AllAt.l0 k1 a1 y134 (wrap64 (x6_1 + 1)) l0_0) = some r:=by first | (rw [hy134];with_reducible exact H) | (have H2_:=(Option.bind_some _ _).symm.trans H;rw [hy134];with_reducible exact H2_) | (have H2_:=(Option.bind_some _ _).symm.trans H;with_reducible exact H2_) | with_reducible exact H | (rw [hy134];exact H) | exact H
     have Ny134:=zMk hy134;clear hy134;have H':=zMk H;clear H;have hcz9_0 : wr.cell? ⟨gb129,0,none⟩ = some (.slice A0_0 l0_0.length c0_0):=(zCl BK129.out 0).trans rfl;have hfz9_0:=zFr BK129.out 0;go_wp2_with (first | ((with_reducible refine gate_callee (f:=77) rfl ?_);refine goesL_ (some 16) rfl rfl Try.func77 (by kernel_rfl) rfl #[.agg #[.slice A0_0 l0_0.length c0_0],.int .i64 a1,.int .i64 x6_1] rfl (by (try simp only [List.map_toArray,List.map_cons,List.map_nil]);first | done | rfl | (simp only [List.length_drop,List.length_take];rfl)) ?_;(with_reducible refine (spec_GetAt.calls k1 _ _ l0_0 a1 x6_1 t133 _ ?side1 ?side2 A7.out).mono ?_);(case side1=>repeat (first | exact (Kd.C_below HR0_0.out HB.out) | (with_reducible refine Kd.C_alloc ?_ _) | (with_reducible refine Kd.C_drewN ?_ _) | (with_reducible refine Kd.C_drew ?_)));(case side2=>exact HC0_0.out);rintro e w10 ⟨rfl,hb⟩;refine ⟨_,rfl,?_⟩;have n0_:=zMk (Kd.R_below (rs HO_5) hb);have n1_:=zMk (blk_below (g:=gb129) (o:=.cells #[.slice A0_0 l0_0.length c0_0] 34 (0,0)) (bs BK129) hb);have n2_:=zMk (below_step (hs1 HB GE129) hb);clear HO_5;clear BK129;clear HB;have HO_5:=n0_;have BK129:=n1_;have HB:=n2_;clear n0_ n1_ n2_;(try clear hb);(try clear hb2);(try clear hk);(try clear hi)) | ((with_reducible refine gate_builtin (b:=.append) (xs:=#[.tmp 12,.tmp 17]) rfl ?_);at_builtin;refine Kd.R_append (Kd.int .i64) (w0:=w) w.heap.size rfl (.tmp 12) (.tmp 17) 29 3 (.int .i64 0) 8 rfl Try.underlying29 info3 rfl (by decide) (by omega) u5 x5_1 t133 [.int .i64 t133] (fun _=>True) (fun _=>False) rfl rfl ?aP (fun _ hk=>hk.elim) ?aF ?aO ?aB ?aS ?aL ?_;(case aP=>exact rfl);(case aB=>exact (hs1 HB GE129));(case aF=>exact (fun _ _=>trivial));(case aO=>exact (rs HO_5));(case aS=>exact (below_size (hs1 HB GE129)));(case aL=>have:=LMc8.out;omega);intro v135 w11 ho hb hg hat;rw [← Ny134.out] at ho;have n0_:=zMk (blk_grown (g:=gb129) (o:=.cells #[.slice A0_0 l0_0.length c0_0] 34 (0,0)) (bs BK129) hg (Kd.R_ne HO_5.out BK129.out (by decide)));have n1_:=zMk (hb);have n2_:=zMk (ho);clear BK129;clear HB;clear HO_5;have BK129:=n0_;have HB:=n1_;have HO136:=n2_;clear n0_ n1_ n2_;clear ho hb hg hat));go_roundg k1;case measure=>have:=HK1.out;omega
     case rel=>exact ⟨(y134),(wrap64 (x6_1 + 1)),(by first | rfl | (simp;done) | (simp [*];done)),H',⟨by have:=HK1.out;omega⟩,⟨rs HO136⟩,⟨bs BK129⟩,⟨hs1 HB GE129⟩⟩
    rw [if_neg c8] at H;exact absurd H (by simp)
   rw [if_neg c6] at H;have c6b0 : decide (x6_1 < 16) = false:=decide_eq_false c6;clear c6;obtain rfl:=Option.some.inj H
   go_wp2
   go_ret
   exact ⟨_,by first | rfl | (simp [errW_none,errW_some] <;> rfl) | (simp [*,errW_none,errW_some] <;> rfl),rs HO_5,hs1 HB GE129⟩
mutual
def spec_l12Insert.l0 : Nat → List Int → Int → List Int → Int → Option (List Int)
 | 0,_,_,_,_=>none
 | k + 1,x0,x1,x5,x6=>if x6 < (x0.length : Int) then (if 0 ≤ x6 then (if (rd x0 x6) < x1 then (if x5.length < 17592186044416 then (spec_l12Insert.l0 k x0 x1 (x5 ++ [rd x0 x6]) (wrap64 (x6 + 1))) else (none)) else (spec_l12Insert.l0 k x0 x1 x5 (wrap64 (x6 + 1)))) else (none)) else (if x1 > 0 then (if x5.length < 17592186044416 then (spec_l12Insert.j1 k x0 x1 (x5 ++ [x1])) else (none)) else (spec_l12Insert.j1 k x0 x1 x5))
def spec_l12Insert.j1 : Nat → List Int → Int → List Int → Option (List Int)
 | 0,_,_,_=>none
 | k + 1,x0,x1,x5=>spec_l12Insert.l1 k x0 x1 x5 0
def spec_l12Insert.l1 : Nat → List Int → Int → List Int → Int → Option (List Int)
 | 0,_,_,_,_=>none
 | k + 1,x0,x1,x5,x7=>if x7 < (x0.length : Int) then (if 0 ≤ x7 then (if (rd x0 x7) > x1 then (if x5.length < 17592186044416 then (spec_l12Insert.l1 k x0 x1 (x5 ++ [rd x0 x7]) (wrap64 (x7 + 1))) else (none)) else (spec_l12Insert.l1 k x0 x1 x5 (wrap64 (x7 + 1)))) else (none)) else (some x5)
end
def spec_l12Insert.f (k : Nat) (l0 : List Int) (a1 : Int) : Option (List Int):=spec_l12Insert.l0 k l0 a1 (([] : List Int)) 0
theorem spec_l12Insert.mono_l : ∀ k,(∀ y0 y1 y2 y3,LeO (spec_l12Insert.l0 k y0 y1 y2 y3) (spec_l12Insert.l0 (k + 1) y0 y1 y2 y3)) ∧ (∀ y0 y1 y2,LeO (spec_l12Insert.j1 k y0 y1 y2) (spec_l12Insert.j1 (k + 1) y0 y1 y2)) ∧ (∀ y0 y1 y2 y3,LeO (spec_l12Insert.l1 k y0 y1 y2 y3) (spec_l12Insert.l1 (k + 1) y0 y1 y2 y3))
 | 0=>⟨fun _ _ _ _ r h=>by simp [spec_l12Insert.l0] at h,fun _ _ _ r h=>by simp [spec_l12Insert.j1] at h,fun _ _ _ _ r h=>by simp [spec_l12Insert.l1] at h⟩
 | k + 1=>by
  obtain ⟨ih0,ih1,ih2⟩:=spec_l12Insert.mono_l k;refine ⟨?_,?_,?_⟩
  ·intro y0 y1 y2 y3;unfold spec_l12Insert.l0
   repeat' first
   | (with_reducible exact ih0 _ _ _ _)
   | (with_reducible exact ih1 _ _ _)
   | (with_reducible exact ih2 _ _ _ _)
   | (with_reducible exact LeO.refl _)
   | (with_reducible exact LeO.none _)
   | (with_reducible refine LeO.ite ?_ ?_)
   | (with_reducible refine LeO.bind ?_ (fun _=>?_))
   | exact ih0 _ _ _ _
   | exact ih1 _ _ _
   | exact ih2 _ _ _ _
   | exact LeO.none _
   | refine LeO.ite ?_ ?_
   | refine LeO.bind ?_ (fun _=>?_)
  ·intro y0 y1 y2;unfold spec_l12Insert.j1
   repeat' first
   | (with_reducible exact ih0 _ _ _ _)
   | (with_reducible exact ih1 _ _ _)
   | (with_reducible exact ih2 _ _ _ _)
   | (with_reducible exact LeO.refl _)
   | (with_reducible exact LeO.none _)
   | (with_reducible refine LeO.ite ?_ ?_)
   | (with_reducible refine LeO.bind ?_ (fun _=>?_))
   | exact ih0 _ _ _ _
   | exact ih1 _ _ _
   | exact ih2 _ _ _ _
   | exact LeO.none _
   | refine LeO.ite ?_ ?_
   | refine LeO.bind ?_ (fun _=>?_)
  intro y0 y1 y2 y3;unfold spec_l12Insert.l1
  repeat' first
  | (with_reducible exact ih0 _ _ _ _)
  | (with_reducible exact ih1 _ _ _)
  | (with_reducible exact ih2 _ _ _ _)
  | (with_reducible exact LeO.refl _)
  | (with_reducible exact LeO.none _)
  | (with_reducible refine LeO.ite ?_ ?_)
  | (with_reducible refine LeO.bind ?_ (fun _=>?_))
  | exact ih0 _ _ _ _
  | exact ih1 _ _ _
  | exact ih2 _ _ _ _
  | exact LeO.none _
  | refine LeO.ite ?_ ?_
  | refine LeO.bind ?_ (fun _=>?_)
theorem spec_l12Insert.mono : ∀ a0 a1 k,LeO (spec_l12Insert.f k a0 a1) (spec_l12Insert.f (k + 1) a0 a1):=by
 intro a0 a1 k;obtain ⟨ih0,ih1,ih2⟩:=spec_l12Insert.mono_l k;unfold spec_l12Insert.f
 repeat' first
   | (with_reducible exact ih0 _ _ _ _)
   | (with_reducible exact ih1 _ _ _)
   | (with_reducible exact ih2 _ _ _ _)
   | (with_reducible exact LeO.refl _)
   | (with_reducible exact LeO.none _)
   | (with_reducible refine LeO.ite ?_ ?_)
   | (with_reducible refine LeO.bind ?_ (fun _=>?_))
   | exact ih0 _ _ _ _
   | exact ih1 _ _ _
   | exact ih2 _ _ _ _
   | exact LeO.none _
   | refine LeO.ite ?_ ?_
   | refine LeO.bind ?_ (fun _=>?_)
set_option maxHeartbeats 8000000 in
set_option maxRecDepth 100000 in
theorem spec_l12Insert.calls (k : Nat) (A0 : Option Addr) (c0 : Nat) (l0 : List Int) (a1 : Int) (r : List Int) (w : World) (hr0 : Kd.C (Kd.int .i64) w A0 l0.length l0) (hc0 : l0.length ≤ c0) (h : spec_l12Insert.f k l0 a1 = some r) :
  Calls Try.prog 45 #[.slice A0 l0.length c0,.int .i64 a1] w fun e w'=>∃ v0_ : Value,e = .returned (v0_) ∧ Kd.R (Kd.int .i64) 3 w' w.heap.size (fun _=>True) v0_ r ∧ Below w.heap.size w w':=by
 have HR0:=zMk hr0;have HC0:=zMk hc0;clear hr0 hc0;have HB:=zMk (Below.refl w.heap.size w);have H : (spec_l12Insert.l0 k l0 a1 (([] : List Int)) 0) = some r:=h;clear h;obtain ⟨y137,hy137⟩ : ∃ y_ : List Int,y_ = (([] : List Int)):=⟨_,rfl⟩;replace H : (spec_l12Insert.l0 k l0 a1 y137 0) = some r:=by first | (rw [hy137];with_reducible exact H) | (have H2_:=(Option.bind_some _ _).symm.trans H;rw [hy137];with_reducible exact H2_) | (have H2_:=(Option.bind_some _ _).symm.trans H;with_reducible exact H2_) | with_reducible exact H | (rw [hy137];exact H) | exact H
 have Ny137:=zMk hy137;clear hy137;have H':=zMk H;clear H
 go_enter Try.func45,Try.ntmps45
 go_wp2_with (first | ((with_reducible refine gate_dst (N:=8) rfl ?_);refine Kd.R_lit (Kd.int .i64) _ 3 ?hg (N:=8) ?hd (xs:=([] : List Int)) (inner:=[]) (ok:=fun _=>True) (okp:=fun _=>True) ?hr ?hp (fun _ hk=>hk) trivial (Below.refl _ _) (Nat.le_refl _) (by simp) ?_;(case hd=>rfl);(case hg=>rfl);(case hr=>first | (go_simp;done) | (go_simp;rfl));(case hp=>exact (Reps.none _ _));intro v138 w3 ho4 hb hg_ hnew_;clear hg_ hnew_;(first | rw [← Ny137.out] at ho4 | (simp only [Int.reduceToNat] at ho4;rw [← Ny137.out] at ho4));have n0_:=zMk (Kd.R_lower ho4 (below_size (hs HB)));have n1_:=zMk (below_step (hs HB) hb);clear HB;have HO139:=n0_;have HB:=n1_;clear n0_ n1_;clear hb ho4));go_loopg [5,6] k (fun kq v5 v6 w'=>∃ (x5_1 : List Int) (x6_1 : Int),v6 = .int .i64 x6_1 ∧ Aside0 (spec_l12Insert.l0 kq l0 a1 x5_1 x6_1 = some r) ∧ Aside0 (kq ≤ k) ∧ Aside0 (Kd.R (Kd.int .i64) 3 w' w.heap.size (fun _=>True) v5 x5_1) ∧ Aside0 (Below w.heap.size w w'));case atStart=>exact ⟨(y137),(0),(by first | rfl | (simp;done) | (simp [*];done)),H',⟨Nat.le_refl _⟩,⟨rs HO139⟩,⟨hs HB⟩⟩
 case round =>
  clear H'
  try clear p2
  try clear c4
  obtain ⟨x5_1,x6_1,rfl,HA,HK1,HO_5,HB⟩:=hrel;cases gk with
  | zero=>exact absurd HA.out (by simp [spec_l12Insert.l0])
  | succ k1 =>
   have H:=HA.out;clear HA;simp only [spec_l12Insert.l0] at H
   by_cases c5 : x6_1 < (l0.length : Int)
   ·rw [if_pos c5] at H;have c5b0 : decide (x6_1 < (l0.length : Int)) = true:=decide_eq_true c5;clear c5
    by_cases c6 : 0 ≤ x6_1
    ·rw [if_pos c6] at H;have c6b0 : decide (0 ≤ x6_1) = true:=decide_eq_true c6;clear c6
     by_cases c7 : (rd l0 x6_1) < a1
     ·rw [if_pos c7] at H;have c7b0 : decide ((rd l0 x6_1) < a1) = true:=decide_eq_true c7;clear c7
      by_cases c8 : x5_1.length < 17592186044416
      ·rw [if_pos c8] at H;have LMc8:=zMk c8;clear c8;obtain ⟨y142,hy142⟩ : ∃ y_ : List Int,y_ = (x5_1 ++ [rd l0 x6_1]):=⟨_,rfl⟩;replace H : (spec_l12Insert.l0 k1 l0 a1 y142 (wrap64 (x6_1 + 1))) = some r:=by first | (rw [hy142];with_reducible exact H) | (have H2_:=(Option.bind_some _ _).symm.trans H;rw [hy142];with_reducible exact H2_) | (have H2_:=(Option.bind_some _ _).symm.trans H;with_reducible exact H2_) | with_reducible exact H | (rw [hy142];exact H) | exact H
       have Ny142:=zMk hy142;clear hy142;have H':=zMk H;clear H;have p140 : 0 ≤ (x6_1 : Int):=zDe (by first | (with_reducible assumption) | assumption);have q140 : x6_1 < (l0.length : Int):=zDe (by first | (with_reducible assumption) | assumption);obtain ⟨ad140,e140,hx140_0⟩:=Kd.at_int HR0.out x6_1 p140 q140;cases e140;replace hx140_0:=(HB.out.cell (zBl w _ hx140_0)).trans hx140_0;replace p140:=eq_true p140;replace q140:=eq_true q140;have p141 : 0 ≤ (x6_1 : Int):=zDe (by first | (with_reducible assumption) | assumption);have q141 : x6_1 < (l0.length : Int):=zDe (by first | (with_reducible assumption) | assumption);obtain ⟨ad141,e141,hx141_0⟩:=Kd.at_int HR0.out x6_1 p141 q141;obtain rfl : ad140 = ad141:=(by injection e141);replace hx141_0:=(HB.out.cell (zBl w _ hx141_0)).trans hx141_0;replace p141:=eq_true p141;replace q141:=eq_true q141;go_wp2_with (first | ((with_reducible refine gate_builtin (b:=.append) (xs:=#[.tmp 21,.tmp 26]) rfl ?_);at_builtin;refine Kd.R_append (Kd.int .i64) (w0:=w) w.heap.size rfl (.tmp 21) (.tmp 26) 29 3 (.int .i64 0) 8 rfl Try.underlying29 info3 rfl (by decide) (by omega) u5 x5_1 (rd l0 x6_1) [.int .i64 (rd l0 x6_1)] (fun _=>True) (fun _=>False) rfl rfl ?aP (fun _ hk=>hk.elim) ?aF ?aO ?aB ?aS ?aL ?_;(case aP=>exact rfl);(case aB=>exact (hs HB));(case aF=>exact (fun _ _=>trivial));(case aO=>exact (rs HO_5));(case aS=>exact (below_size (hs HB)));(case aL=>have:=LMc8.out;omega);intro v143 w9 ho hb hg hat;rw [← Ny142.out] at ho;have n0_:=zMk (hb);have n1_:=zMk (ho);clear HB;clear HO_5;have HB:=n0_;have HO144:=n1_;clear n0_ n1_;clear ho hb hg hat));go_roundg k1;case measure=>have:=HK1.out;omega
       case rel=>exact ⟨(y142),(wrap64 (x6_1 + 1)),(by first | rfl | (simp;done) | (simp [*];done)),H',⟨by have:=HK1.out;omega⟩,⟨rs HO144⟩,⟨hs HB⟩⟩
      rw [if_neg c8] at H;exact absurd H (by simp)
     rw [if_neg c7] at H;have c7b0 : decide ((rd l0 x6_1) < a1) = false:=decide_eq_false c7;clear c7;have H':=zMk H;clear H;have p140 : 0 ≤ (x6_1 : Int):=zDe (by first | (with_reducible assumption) | assumption);have q140 : x6_1 < (l0.length : Int):=zDe (by first | (with_reducible assumption) | assumption);obtain ⟨ad140,e140,hx140_0⟩:=Kd.at_int HR0.out x6_1 p140 q140;cases e140;replace hx140_0:=(HB.out.cell (zBl w _ hx140_0)).trans hx140_0;replace p140:=eq_true p140;replace q140:=eq_true q140
     go_wp2
     go_roundg k1;case measure=>have:=HK1.out;omega
     case rel=>exact ⟨(x5_1),(wrap64 (x6_1 + 1)),(by first | rfl | (simp;done) | (simp [*];done)),H',⟨by have:=HK1.out;omega⟩,⟨rs HO_5⟩,⟨hs HB⟩⟩
    rw [if_neg c6] at H;exact absurd H (by simp)
   rw [if_neg c5] at H;have c5b0 : decide (x6_1 < (l0.length : Int)) = false:=decide_eq_false c5;clear c5;have HC10:=zMk H;clear H
   go_upto_if 29 with (fail)
   go_cut [5] (fun v5 wc=>∃ (kq : Nat) (x5_9 : List Int),Aside0 (spec_l12Insert.j1 kq l0 a1 x5_9 = some r) ∧ Aside0 (kq ≤ k1) ∧ Aside0 (Kd.R (Kd.int .i64) 3 wc w.heap.size (fun _=>True) v5 x5_9) ∧ Aside0 (Below w.heap.size w wc))
   case first =>
    have H:=HC10.out;clear HC10
    by_cases c11 : a1 > 0
    ·rw [if_pos c11] at H;have c11b0 : decide (0 < a1) = true:=decide_eq_true c11;clear c11
     (first | rw [c11b0] | (simp only [i64_w,i32_w];rw [c11b0]) | skip)
     by_cases c12 : x5_1.length < 17592186044416
     ·rw [if_pos c12] at H;have LMc12:=zMk c12;clear c12;obtain ⟨y145,hy145⟩ : ∃ y_ : List Int,y_ = (x5_1 ++ [a1]):=⟨_,rfl⟩;replace H : (spec_l12Insert.j1 k1 l0 a1 y145) = some r:=by first | (rw [hy145];with_reducible exact H) | (have H2_:=(Option.bind_some _ _).symm.trans H;rw [hy145];with_reducible exact H2_) | (have H2_:=(Option.bind_some _ _).symm.trans H;with_reducible exact H2_) | with_reducible exact H | (rw [hy145];exact H) | exact H
      have Ny145:=zMk hy145;clear hy145;have H':=zMk H;clear H;go_wp2_with (first | ((with_reducible refine gate_builtin (b:=.append) (xs:=#[.tmp 30,.tmp 32]) rfl ?_);at_builtin;refine Kd.R_append (Kd.int .i64) (w0:=w) w.heap.size rfl (.tmp 30) (.tmp 32) 29 3 (.int .i64 0) 8 rfl Try.underlying29 info3 rfl (by decide) (by omega) u5 x5_1 a1 [.int .i64 a1] (fun _=>True) (fun _=>False) rfl rfl ?aP (fun _ hk=>hk.elim) ?aF ?aO ?aB ?aS ?aL ?_;(case aP=>exact rfl);(case aB=>exact (hs HB));(case aF=>exact (fun _ _=>trivial));(case aO=>exact (rs HO_5));(case aS=>exact (below_size (hs HB)));(case aL=>have:=LMc12.out;omega);intro v146 w13 ho hb hg hat;rw [← Ny145.out] at ho;have n0_:=zMk (hb);have n1_:=zMk (ho);clear HB;clear HO_5;have HB:=n0_;have HO147:=n1_;clear n0_ n1_;clear ho hb hg hat))
      go_meet
      case rel=>exact ⟨_,(y145),H',⟨by have:=HK1.out;first | omega | exact Nat.le_refl _⟩,⟨rs HO147⟩,⟨hs HB⟩⟩
     rw [if_neg c12] at H;exact absurd H (by simp)
    rw [if_neg c11] at H;have c11b0 : decide (0 < a1) = false:=decide_eq_false c11;clear c11
    (first | rw [c11b0] | (simp only [i64_w,i32_w];rw [c11b0]) | skip)
    have H':=zMk H;clear H
    go_wp2
    go_meet
    case rel=>exact ⟨_,(x5_1),H',⟨by have:=HK1.out;first | omega | exact Nat.le_refl _⟩,⟨rs HO_5⟩,⟨hs HB⟩⟩
   case rest =>
    clear HC10
    try clear c1
    try clear p1
    try clear q1
    try clear hx1
    try clear p2
    try clear c4
    try clear c5
    try clear c5b0
    try clear c6
    try clear c6b0
    try clear p6
    try clear c7
    try clear c7b0
    try clear c8
    try clear c11
    try clear c11b0
    try clear c12
    try clear hx140_0
    try clear hx141_0
    try clear p140
    try clear p141
    try clear p2
    try clear q140
    try clear q141
    obtain ⟨kq,x5_9,HA,HJ9,HO_5,HB⟩:=hcut;cases kq with
    | zero=>exact absurd HA.out (by simp [spec_l12Insert.j1])
    | succ kj9 =>
     have H:=HA.out;clear HA;simp only [spec_l12Insert.j1] at H;have H':=zMk H;clear H
     go_wp2
     go_loopg [5,7] kj9 (fun kq v5 v7 w'=>∃ (x5_3 : List Int) (x7_3 : Int),v7 = .int .i64 x7_3 ∧ Aside0 (spec_l12Insert.l1 kq l0 a1 x5_3 x7_3 = some r) ∧ Aside0 (kq ≤ kj9) ∧ Aside0 (Kd.R (Kd.int .i64) 3 w' w.heap.size (fun _=>True) v5 x5_3) ∧ Aside0 (Below w.heap.size w w'));case atStart=>exact ⟨(x5_9),(0),(by first | rfl | (simp;done) | (simp [*];done)),H',⟨Nat.le_refl _⟩,⟨rs HO_5⟩,⟨hs HB⟩⟩
     case round =>
      clear H'
      try clear c1
      try clear p1
      try clear q1
      try clear hx1
      try clear p2
      try clear c4
      try clear c5
      try clear c5b0
      try clear c6
      try clear c6b0
      try clear p6
      try clear c7
      try clear c7b0
      try clear c8
      try clear c11
      try clear c11b0
      try clear c12
      try clear hx140_0
      try clear hx141_0
      try clear p1
      try clear p140
      try clear p141
      try clear p2
      try clear p6
      try clear q1
      try clear q140
      try clear q141
      obtain ⟨x5_3,x7_3,rfl,HA,HK3,HO_5,HB⟩:=hrel;cases gk with
      | zero=>exact absurd HA.out (by simp [spec_l12Insert.l1])
      | succ k3 =>
       have H:=HA.out;clear HA;simp only [spec_l12Insert.l1] at H
       by_cases c14 : x7_3 < (l0.length : Int)
       ·rw [if_pos c14] at H;have c14b0 : decide (x7_3 < (l0.length : Int)) = true:=decide_eq_true c14;clear c14
        by_cases c15 : 0 ≤ x7_3
        ·rw [if_pos c15] at H;have c15b0 : decide (0 ≤ x7_3) = true:=decide_eq_true c15;clear c15
         by_cases c16 : (rd l0 x7_3) > a1
         ·rw [if_pos c16] at H;have c16b0 : decide (a1 < (rd l0 x7_3)) = true:=decide_eq_true c16;clear c16
          by_cases c17 : x5_3.length < 17592186044416
          ·rw [if_pos c17] at H;have LMc17:=zMk c17;clear c17;obtain ⟨y150,hy150⟩ : ∃ y_ : List Int,y_ = (x5_3 ++ [rd l0 x7_3]):=⟨_,rfl⟩;replace H : (spec_l12Insert.l1 k3 l0 a1 y150 (wrap64 (x7_3 + 1))) = some r:=by first | (rw [hy150];with_reducible exact H) | (have H2_:=(Option.bind_some _ _).symm.trans H;rw [hy150];with_reducible exact H2_) | (have H2_:=(Option.bind_some _ _).symm.trans H;with_reducible exact H2_) | with_reducible exact H | (rw [hy150];exact H) | exact H
           have Ny150:=zMk hy150;clear hy150;have H':=zMk H;clear H;have p148 : 0 ≤ (x7_3 : Int):=zDe (by first | (with_reducible assumption) | assumption);have q148 : x7_3 < (l0.length : Int):=zDe (by first | (with_reducible assumption) | assumption);obtain ⟨ad148,e148,hx148_0⟩:=Kd.at_int HR0.out x7_3 p148 q148;cases e148;replace hx148_0:=(HB.out.cell (zBl w _ hx148_0)).trans hx148_0;replace p148:=eq_true p148;replace q148:=eq_true q148;have p149 : 0 ≤ (x7_3 : Int):=zDe (by first | (with_reducible assumption) | assumption);have q149 : x7_3 < (l0.length : Int):=zDe (by first | (with_reducible assumption) | assumption);obtain ⟨ad149,e149,hx149_0⟩:=Kd.at_int HR0.out x7_3 p149 q149;obtain rfl : ad148 = ad149:=(by injection e149);replace hx149_0:=(HB.out.cell (zBl w _ hx149_0)).trans hx149_0;replace p149:=eq_true p149;replace q149:=eq_true q149;go_wp2_with (first | ((with_reducible refine gate_builtin (b:=.append) (xs:=#[.tmp 46,.tmp 51]) rfl ?_);at_builtin;refine Kd.R_append (Kd.int .i64) (w0:=w) w.heap.size rfl (.tmp 46) (.tmp 51) 29 3 (.int .i64 0) 8 rfl Try.underlying29 info3 rfl (by decide) (by omega) u5 x5_3 (rd l0 x7_3) [.int .i64 (rd l0 x7_3)] (fun _=>True) (fun _=>False) rfl rfl ?aP (fun _ hk=>hk.elim) ?aF ?aO ?aB ?aS ?aL ?_;(case aP=>exact rfl);(case aB=>exact (hs HB));(case aF=>exact (fun _ _=>trivial));(case aO=>exact (rs HO_5));(case aS=>exact (below_size (hs HB)));(case aL=>have:=LMc17.out;omega);intro v151 w18 ho hb hg hat;rw [← Ny150.out] at ho;have n0_:=zMk (hb);have n1_:=zMk (ho);clear HB;clear HO_5;have HB:=n0_;have HO152:=n1_;clear n0_ n1_;clear ho hb hg hat));go_roundg k3;case measure=>have:=HK1.out;have:=HJ9.out;have:=HK3.out;omega
           case rel=>exact ⟨(y150),(wrap64 (x7_3 + 1)),(by first | rfl | (simp;done) | (simp [*];done)),H',⟨by have:=HK1.out;have:=HJ9.out;have:=HK3.out;omega⟩,⟨rs HO152⟩,⟨hs HB⟩⟩
          rw [if_neg c17] at H;exact absurd H (by simp)
         rw [if_neg c16] at H;have c16b0 : decide (a1 < (rd l0 x7_3)) = false:=decide_eq_false c16;clear c16;have H':=zMk H;clear H;have p148 : 0 ≤ (x7_3 : Int):=zDe (by first | (with_reducible assumption) | assumption);have q148 : x7_3 < (l0.length : Int):=zDe (by first | (with_reducible assumption) | assumption);obtain ⟨ad148,e148,hx148_0⟩:=Kd.at_int HR0.out x7_3 p148 q148;cases e148;replace hx148_0:=(HB.out.cell (zBl w _ hx148_0)).trans hx148_0;replace p148:=eq_true p148;replace q148:=eq_true q148
         go_wp2
         go_roundg k3;case measure=>have:=HK1.out;have:=HJ9.out;have:=HK3.out;omega
         case rel=>exact ⟨(x5_3),(wrap64 (x7_3 + 1)),(by first | rfl | (simp;done) | (simp [*];done)),H',⟨by have:=HK1.out;have:=HJ9.out;have:=HK3.out;omega⟩,⟨rs HO_5⟩,⟨hs HB⟩⟩
        rw [if_neg c15] at H;exact absurd H (by simp)
       rw [if_neg c14] at H;have c14b0 : decide (x7_3 < (l0.length : Int)) = false:=decide_eq_false c14;clear c14;obtain rfl:=Option.some.inj H
       go_wp2
       go_ret
       exact ⟨_,by first | rfl | (simp [errW_none,errW_some] <;> rfl) | (simp [*,errW_none,errW_some] <;> rfl),rs HO_5,hs HB⟩
mutual
def spec_LiveOf.l0 : Nat → List Int → Int → List (S89) → List (S147) → Int → Option (List Int)
 | 0,_,_,_,_,_=>none
 | k + 1,x3,x4,x154000,x154001,x154002=>if x4 < (x154000.length : Int) then (if 0 ≤ x4 then ((spec_AllAt.f k x154001 ((rd_T89 x154000 x4).f1)).bind fun t158=>(spec_LiveOf.l1 k x3 x4 t158 0 x154000 x154001 x154002)) else (none)) else (some x3)
def spec_LiveOf.l1 : Nat → List Int → Int → List Int → Int → List (S89) → List (S147) → Int → Option (List Int)
 | 0,_,_,_,_,_,_,_=>none
 | k + 1,x3,x4,x5,x6,x154000,x154001,x154002=>if x6 < (x5.length : Int) then (if 0 ≤ x6 then ((spec_l12Insert.f k x3 (rd x5 x6)).bind fun t162=>(spec_LiveOf.l1 k t162 x4 x5 (wrap64 (x6 + 1)) x154000 x154001 x154002)) else (none)) else (spec_LiveOf.l0 k x3 (wrap64 (x4 + 1)) x154000 x154001 x154002)
end
def spec_LiveOf.f (k : Nat) (l0_0 : List (S89)) (l0_1 : List (S147)) (a0_2 : Int) : Option (List Int):=spec_LiveOf.l0 k (([] : List Int)) 0 l0_0 l0_1 a0_2
theorem spec_LiveOf.mono_l : ∀ k,(∀ y0 y1 y2 y3 y4,LeO (spec_LiveOf.l0 k y0 y1 y2 y3 y4) (spec_LiveOf.l0 (k + 1) y0 y1 y2 y3 y4)) ∧ (∀ y0 y1 y2 y3 y4 y5 y6,LeO (spec_LiveOf.l1 k y0 y1 y2 y3 y4 y5 y6) (spec_LiveOf.l1 (k + 1) y0 y1 y2 y3 y4 y5 y6))
 | 0=>⟨fun _ _ _ _ _ r h=>by simp [spec_LiveOf.l0] at h,fun _ _ _ _ _ _ _ r h=>by simp [spec_LiveOf.l1] at h⟩
 | k + 1=>by
  obtain ⟨ih0,ih1⟩:=spec_LiveOf.mono_l k;refine ⟨?_,?_⟩
  ·intro y0 y1 y2 y3 y4;unfold spec_LiveOf.l0
   repeat' first
   | (with_reducible exact ih0 _ _ _ _ _)
   | (with_reducible exact ih1 _ _ _ _ _ _ _)
   | (with_reducible exact spec_AllAt.mono _ _ _)
   | (with_reducible exact spec_l12Insert.mono _ _ _)
   | (with_reducible exact LeO.refl _)
   | (with_reducible exact LeO.none _)
   | (with_reducible refine LeO.ite ?_ ?_)
   | (with_reducible refine LeO.bind ?_ (fun _=>?_))
   | exact ih0 _ _ _ _ _
   | exact ih1 _ _ _ _ _ _ _
   | exact spec_AllAt.mono _ _ _
   | exact spec_l12Insert.mono _ _ _
   | exact LeO.none _
   | refine LeO.ite ?_ ?_
   | refine LeO.bind ?_ (fun _=>?_)
  intro y0 y1 y2 y3 y4 y5 y6;unfold spec_LiveOf.l1
  repeat' first
  | (with_reducible exact ih0 _ _ _ _ _)
  | (with_reducible exact ih1 _ _ _ _ _ _ _)
  | (with_reducible exact spec_AllAt.mono _ _ _)
  | (with_reducible exact spec_l12Insert.mono _ _ _)
  | (with_reducible exact LeO.refl _)
  | (with_reducible exact LeO.none _)
  | (with_reducible refine LeO.ite ?_ ?_)
  | (with_reducible refine LeO.bind ?_ (fun _=>?_))
  | exact ih0 _ _ _ _ _
  | exact ih1 _ _ _ _ _ _ _
  | exact spec_AllAt.mono _ _ _
  | exact spec_l12Insert.mono _ _ _
  | exact LeO.none _
  | refine LeO.ite ?_ ?_
  | refine LeO.bind ?_ (fun _=>?_)
theorem spec_LiveOf.mono : ∀ a0 a1 a2 k,LeO (spec_LiveOf.f k a0 a1 a2) (spec_LiveOf.f (k + 1) a0 a1 a2):=by
 intro a0 a1 a2 k;obtain ⟨ih0,ih1⟩:=spec_LiveOf.mono_l k;unfold spec_LiveOf.f
 repeat' first
   | (with_reducible exact ih0 _ _ _ _ _)
   | (with_reducible exact ih1 _ _ _ _ _ _ _)
   | (with_reducible exact spec_AllAt.mono _ _ _)
   | (with_reducible exact spec_l12Insert.mono _ _ _)
   | (with_reducible exact LeO.refl _)
   | (with_reducible exact LeO.none _)
   | (with_reducible refine LeO.ite ?_ ?_)
   | (with_reducible refine LeO.bind ?_ (fun _=>?_))
   | exact ih0 _ _ _ _ _
   | exact ih1 _ _ _ _ _ _ _
   | exact spec_AllAt.mono _ _ _
   | exact spec_l12Insert.mono _ _ _
   | exact LeO.none _
   | refine LeO.ite ?_ ?_
   | refine LeO.bind ?_ (fun _=>?_)
def spec_LiveOf.T5 : Bool × List (List Nat × List Nat):=(true,[([],[]),([0],[0]),([],[]),([2],[2]),([],[]),([3,4],[3,4]),([5],[5]),([6],[6]),([1,7],[1,7]),([8,8,0,1,2,3,4,5,6,7,8],[8])])
def spec_LiveOf.B5 : List Nat:=[0,1,0,4,0,28,60,124,255,511]
theorem spec_LiveOf.tab5 : rtab .any (opsOf Try.f9 5) = spec_LiveOf.T5:=by kernel_rfl
theorem spec_LiveOf.bits5 : waitsOk spec_LiveOf.T5.2 spec_LiveOf.B5 = true:=by kernel_rfl
set_option maxHeartbeats 8000000 in
set_option maxRecDepth 100000 in
theorem spec_LiveOf.calls (k : Nat) (A0_0 : Option Addr) (c0_0 : Nat) (l0_0 : List (S89)) (A0_1 : Option Addr) (c0_1 : Nat) (l0_1 : List (S147)) (a0_2 : Int) (r : List Int) (w : World) (hr0_0 : Kd.C k89 w A0_0 l0_0.length l0_0) (hc0_0 : l0_0.length ≤ c0_0) (hr0_1 : Kd.C k147 w A0_1 l0_1.length l0_1) (hc0_1 : l0_1.length ≤ c0_1) (h : spec_LiveOf.f k l0_0 l0_1 a0_2 = some r) :
  Calls Try.prog 9 #[.agg #[.slice A0_0 l0_0.length c0_0,.slice A0_1 l0_1.length c0_1,.int .i64 a0_2]] w fun e w'=>∃ v0_ : Value,e = .returned (v0_) ∧ Kd.R (Kd.int .i64) 3 w' w.heap.size (fun _=>True) v0_ r ∧ Below w.heap.size w w':=by
 have hu36:=Try.underlying36;have hu34:=Try.underlying34;have HR0_0:=zMk hr0_0;have HC0_0:=zMk hc0_0;clear hr0_0 hc0_0;have HR0_1:=zMk hr0_1;have HC0_1:=zMk hc0_1;clear hr0_1 hc0_1;have HB:=zMk (Below.refl w.heap.size w);have H : (spec_LiveOf.l0 k (([] : List Int)) 0 l0_0 l0_1 a0_2) = some r:=h;clear h;obtain ⟨y154,hy154⟩ : ∃ y_ : List Int,y_ = (([] : List Int)):=⟨_,rfl⟩;replace H : (spec_LiveOf.l0 k y154 0 l0_0 l0_1 a0_2) = some r:=by first | (rw [hy154];with_reducible exact H) | (have H2_:=(Option.bind_some _ _).symm.trans H;rw [hy154];with_reducible exact H2_) | (have H2_:=(Option.bind_some _ _).symm.trans H;with_reducible exact H2_) | with_reducible exact H | (rw [hy154];exact H) | exact H
 have Ny154:=zMk hy154;clear hy154;have H':=zMk H;clear H
 go_enter Try.func9,Try.ntmps9
 go_wp2_with (first | ((with_reducible refine gate_dst (N:=1) rfl ?_);refine box_event ?hg (N:=1) ?hd (cs:=#[.slice A0_0 l0_0.length c0_0,.slice A0_1 l0_1.length c0_1,.int .i64 a0_2]) (t:=36) ?hr ?_;(case hd=>rfl);(case hg=>rfl);(case hr=>first | (go_simp;done) | (go_simp;rfl));intro gb153 hg w2 hbox hb;have n0_:=zMk (below_step (hs HB) hb);have n1_:=zMk (hbox);have n2_:=zMk ((by rw [hg];exact (below_size (hs HB)) : w.heap.size ≤ gb153));have n3_:=zMk ((by rw [hg];exact (below_size (hs HB)) : w.heap.size ≤ gb153));clear HB;have HB:=n0_;have BK153:=n1_;have GW153:=n2_;have GE153:=n3_;clear n0_ n1_ n2_ n3_;clear hb hbox hg) | ((with_reducible refine gate_dst (N:=7) rfl ?_);refine Kd.R_lit (Kd.int .i64) _ 3 ?hg (N:=7) ?hd (xs:=([] : List Int)) (inner:=[]) (ok:=fun _=>True) (okp:=fun _=>True) ?hr ?hp (fun _ hk=>hk) trivial (Below.refl _ _) (Nat.le_refl _) (by simp) ?_;(case hd=>rfl);(case hg=>rfl);(case hr=>first | (go_simp;done) | (go_simp;rfl));(case hp=>exact (Reps.none _ _));intro v155 w3 ho4 hb hg_ hnew_;clear hg_ hnew_;(first | rw [← Ny154.out] at ho4 | (simp only [Int.reduceToNat] at ho4;rw [← Ny154.out] at ho4));have n0_:=zMk (Kd.R_lower ho4 (below_size (hs1 HB GE153)));have n1_:=zMk (blk_below (g:=gb153) (o:=.cells #[.slice A0_0 l0_0.length c0_0,.slice A0_1 l0_1.length c0_1,.int .i64 a0_2] 36 (0,0)) (bs BK153) hb);have n2_:=zMk (below_step (hs1 HB GE153) hb);clear BK153;clear HB;have HO156:=n0_;have BK153:=n1_;have HB:=n2_;clear n0_ n1_ n2_;clear hb ho4));go_loopg [3,4] k (fun kq v3 v4 w'=>∃ (x3_1 : List Int) (x4_1 : Int),v4 = .int .i64 x4_1 ∧ Aside0 (spec_LiveOf.l0 kq x3_1 x4_1 l0_0 l0_1 a0_2 = some r) ∧ Aside0 (kq ≤ k) ∧ Aside0 (Kd.R (Kd.int .i64) 3 w' w.heap.size (fun _=>True) v3 x3_1) ∧ Aside0 (w'.heap[gb153]? = some (.cells #[(.slice A0_0 l0_0.length c0_0),(.slice A0_1 l0_1.length c0_1),.int .i64 a0_2] 36 (0,0))) ∧ Aside0 (Below w.heap.size w w'));case atStart=>exact ⟨(y154),(0),(by first | rfl | (simp;done) | (simp [*];done)),H',⟨Nat.le_refl _⟩,⟨rs HO156⟩,⟨bs BK153⟩,⟨hs1 HB GE153⟩⟩
 case round =>
  clear H'
  try clear p2
  obtain ⟨x3_1,x4_1,rfl,HA,HK1,HO_3,BK153,HB⟩:=hrel;cases gk with
  | zero=>exact absurd HA.out (by simp [spec_LiveOf.l0])
  | succ k1 =>
   have H:=HA.out;clear HA;simp only [spec_LiveOf.l0] at H
   by_cases c5 : x4_1 < (l0_0.length : Int)
   ·rw [if_pos c5] at H;have c5b0 : decide (x4_1 < (l0_0.length : Int)) = true:=decide_eq_true c5;clear c5
    by_cases c6 : 0 ≤ x4_1
    ·rw [if_pos c6] at H;have c6b0 : decide (0 ≤ x4_1) = true:=decide_eq_true c6;clear c6;replace H:=Option.bind_eq_some_iff.mp H;obtain ⟨t158,A70,H⟩:=H;replace H : (spec_LiveOf.l1 k1 x3_1 x4_1 t158 0 l0_0 l0_1 a0_2) = some r:=H;have A7:=zMk A70;clear A70;have H':=zMk H;clear H;have hcz8_0 : wr.cell? ⟨gb153,0,none⟩ = some (.slice A0_0 l0_0.length c0_0):=(zCl BK153.out 0).trans rfl;have hcz8_1 : wr.cell? ⟨gb153,1,none⟩ = some (.slice A0_1 l0_1.length c0_1):=(zCl BK153.out 1).trans rfl;have hcz8_2 : wr.cell? ⟨gb153,2,none⟩ = some (.int .i64 a0_2):=(zCl BK153.out 2).trans rfl;have hfz8_0:=zFr BK153.out 0;have hfz8_1:=zFr BK153.out 1;have hfz8_2:=zFr BK153.out 2
     try go_wp2
     have n0_:=zMk (Kd.R_drew HO_3.out);have n1_:=zMk (blk_drew BK153.out);have n2_:=zMk (below_drew1 HB.out);clear HO_3;clear BK153;clear HB;have HO_3:=n0_;have BK153:=n1_;have HB:=n2_;clear n0_ n1_ n2_;have p157 : 0 ≤ (x4_1 : Int):=zDe (by first | (with_reducible assumption) | assumption);have q157 : x4_1 < (l0_0.length : Int):=zDe (by first | (with_reducible assumption) | assumption);obtain ⟨ad157,e157,hx157_0,hx157_1⟩:=at_T89 HR0_0.out x4_1 p157 q157;have hw157_1:=hx157_1;have hw157_0:=hx157_0;cases e157;replace hx157_0:=(HB.out.cell (zBl w _ hx157_0)).trans hx157_0;replace hx157_1:=(HB.out.cell (zBl w _ hx157_1)).trans hx157_1;replace p157:=eq_true p157;replace q157:=eq_true q157;refine start_ (n:=10) (S:=fun w'=>w'.cell? ⟨gb153,0,none⟩ = some (.slice (some ad157) l0_0.length c0_0) ∧ w'.cell? ⟨gb153,1,none⟩ = some (.slice A0_1 l0_1.length c0_1) ∧ w'.cell? ⟨gb153,2,none⟩ = some (.int .i64 a0_2) ∧ w'.cell? (ad157.add ((x4_1).toNat * 2)) = some (.int .i64 ((rd_T89 l0_0 x4_1).f0)) ∧ w'.cell? ⟨(ad157.add ((x4_1).toNat * 2)).block,(ad157.add ((x4_1).toNat * 2)).off + 1,none⟩ = some (.int .i64 ((rd_T89 l0_0 x4_1).f1))) (ds:=[]) #[false,false,false,false,false,false,false,false,false,false] (by kernel_rfl) rfl rfl ⟨(zCl BK153.out 0).trans rfl,(zCl BK153.out 1).trans rfl,(zCl BK153.out 2).trans rfl,((HB.out.cell (zBl w _ hw157_0)).trans hw157_0),((HB.out.cell (zBl w _ hw157_1)).trans hw157_1)⟩ (fun hHeld=>?_);refine with_tabW spec_LiveOf.tab5 spec_LiveOf.bits5 (fun HT_ HW_=>?_);generalize wr.drew = w9 at HO_3 BK153 HB hx157_0 hx157_1 hHeld ⊢;refine pure_ (i:=0) (N:=some 15) (v:=?_) (a':=?_) #[true,false,false,false,false,false,false,false,false,false] rfl rfl (any_of HT_.out (by kernel_rfl)) (fun _ _ _ h=>h) (Or.inl ⟨by rfl,?_⟩) ?_ ?_;rotate_left
     ·intro w';go_simp;with_reducible rfl
     rotate_left
     ·simp only [Act.put,zS1,zS2,zS3,i64_w,i32_w];rfl
     refine pure_ (i:=2) (N:=some 17) (v:=?_) (a':=?_) #[true,false,true,false,false,false,false,false,false,false] rfl rfl (any_of HT_.out (by kernel_rfl)) (fun _ _ _ h=>h) (Or.inl ⟨by rfl,?_⟩) ?_ ?_;rotate_left
     ·intro w';go_simp;with_reducible rfl
     rotate_left
     ·simp only [Act.put,zS1,zS2,zS3,i64_w,i32_w];rfl
     refine pure_ (i:=4) (N:=some 19) (v:=?_) (a':=?_) #[true,false,true,false,true,false,false,false,false,false] rfl rfl (any_of HT_.out (by kernel_rfl)) (fun _ _ _ h=>h) (Or.inl ⟨by rfl,?_⟩) ?_ ?_;rotate_left
     ·intro w';go_simp;with_reducible rfl
     rotate_left
     ·simp only [Act.put,zS1,zS2,zS3,i64_w,i32_w];rfl
     refine take_ (i:=1) (N:=some 16) (v:=?_) (a':=?_) #[true,true,true,false,true,false,false,false,false,false] rfl rfl (take_ofW HT_.out HW_.out (by kernel_rfl)) (fun _ _ _ h=>h) (Or.inl ⟨by rfl,?_⟩) hHeld ?_ ?_;rotate_left
     ·rintro w' ⟨s0,s1,s2,s3,s4⟩;go_simp;with_reducible rfl
     rotate_left
     ·simp only [Act.put,zS1,zS2,zS3,i64_w,i32_w];rfl
     refine take_ (i:=3) (N:=some 18) (v:=?_) (a':=?_) #[true,true,true,true,true,false,false,false,false,false] rfl rfl (take_ofW HT_.out HW_.out (by kernel_rfl)) (fun _ _ _ h=>h) (Or.inl ⟨by rfl,?_⟩) hHeld ?_ ?_;rotate_left
     ·rintro w' ⟨s0,s1,s2,s3,s4⟩;go_simp;with_reducible rfl
     rotate_left
     ·simp only [Act.put,zS1,zS2,zS3,i64_w,i32_w];rfl
     refine pure_ (i:=5) (N:=some 20) (v:=?_) (a':=?_) #[true,true,true,true,true,true,false,false,false,false] rfl rfl (any_of HT_.out (by kernel_rfl)) (fun _ _ _ h=>h) (Or.inl ⟨by rfl,?_⟩) ?_ ?_;rotate_left
     ·intro w';go_simp;with_reducible rfl
     rotate_left
     ·simp only [Act.put,zS1,zS2,zS3,i64_w,i32_w];rfl
     refine pure_ (i:=6) (N:=some 21) (v:=?_) (a':=?_) #[true,true,true,true,true,true,true,false,false,false] rfl rfl (any_of HT_.out (by kernel_rfl)) (fun _ _ _ h=>h) (Or.inl ⟨by rfl,?_⟩) ?_ ?_;rotate_left
     ·intro w';go_simp;with_reducible rfl
     rotate_left
     ·simp only [Act.put,zS1,zS2,zS3,i64_w,i32_w];rfl
     refine take_ (i:=7) (N:=some 22) (v:=?_) (a':=?_) #[true,true,true,true,true,true,true,true,false,false] rfl rfl (take_ofW HT_.out HW_.out (by kernel_rfl)) (fun _ _ _ h=>h) (Or.inl ⟨by rfl,?_⟩) hHeld ?_ ?_;rotate_left
     ·rintro w' ⟨s0,s1,s2,s3,s4⟩;go_simp;with_reducible rfl
     rotate_left
     ·simp only [Act.put,zS1,zS2,zS3,i64_w,i32_w];rfl
     refine one_ (i:=8) (N:=some 23) #[true,true,true,true,true,true,true,true,true,false] rfl rfl (one_of HT_.out (by kernel_rfl)) (by decide) (fun K hK=>?_);refine goes_ Try.func44 (by kernel_rfl) rfl #[.agg #[.slice A0_1 l0_1.length c0_1],.int .i64 ((rd_T89 l0_0 x4_1).f1)] (by rfl) rfl rfl (by (try simp only [List.map_toArray,List.map_cons,List.map_nil]);first | done | rfl | (simp only [List.length_drop,List.length_take];rfl)) ?_;with_reducible refine (spec_AllAt.calls k1 _ _ l0_1 ((rd_T89 l0_0 x4_1).f1) t158 _ ?side1 ?side2 A7.out).mono ?_
     (case side1=>repeat (first | exact (Kd.C_below HR0_1.out HB.out) | (with_reducible refine Kd.C_alloc ?_ _) | (with_reducible refine Kd.C_drewN ?_ _) | (with_reducible refine Kd.C_drew ?_)))
     (case side2=>exact HC0_1.out)
     rintro e w10 ⟨v159,rfl,ho0,hb⟩;refine ⟨_,rfl,?_⟩;have n0_:=zMk (Kd.R_elder' (rs HO_3) (Kd.R_base ho0) hb);have n1_:=zMk (Kd.R_lower (Kd.R_new' ho0 (Kd.R_lt (rs HO_3))) (below_size (hs1 HB GE153)));have n2_:=zMk (blk_below (g:=gb153) (o:=.cells #[.slice (some ad157) l0_0.length c0_0,.slice A0_1 l0_1.length c0_1,.int .i64 a0_2] 36 (0,0)) (bs BK153) hb);have n3_:=zMk (below_step (hs1 HB GE153) hb);clear HO_3;clear BK153;clear HB;have HO_3:=n0_;have HO160:=n1_;have BK153:=n2_;have HB:=n3_;clear n0_ n1_ n2_ n3_
     (try clear hb)
     (try clear hb2)
     (try clear hk)
     (try clear hi)
     (try clear ho0)
     refine hK.out _ _ ⟨(zCl BK153.out 0).trans rfl,(zCl BK153.out 1).trans rfl,(zCl BK153.out 2).trans rfl,((HB.out.cell (zBl w _ hw157_0)).trans hw157_0),((HB.out.cell (zBl w _ hw157_1)).trans hw157_1)⟩ (fun hHeld=>?_);clear hK K;refine norm_ (a':=?_) ?_ ?_;rotate_left
     ·show Act.put _ (some 23) _ = _;simp only [Act.put,zS1,zS2,zS3,i64_w,i32_w];rfl
     refine pure_ (i:=9) (N:=some 5) (v:=?_) (a':=?_) #[true,true,true,true,true,true,true,true,true,true] rfl rfl (any_of HT_.out (by kernel_rfl)) (fun _ _ _ h=>h) (Or.inl ⟨by rfl,?_⟩) ?_ ?_;rotate_left
     ·intro w';go_simp;with_reducible rfl
     rotate_left
     ·simp only [Act.put,zS1,zS2,zS3,i64_w,i32_w];rfl
     refine done_ (done_of HT_.out (by kernel_rfl)) ?_
     try go_wp2
     go_loopg [3,6] k1 (fun kq v3 v6 w'=>∃ (x3_2 : List Int) (x6_2 : Int),v6 = .int .i64 x6_2 ∧ Aside0 (spec_LiveOf.l1 kq x3_2 x4_1 t158 x6_2 l0_0 l0_1 a0_2 = some r) ∧ Aside0 (kq ≤ k1) ∧ Aside0 (Kd.R (Kd.int .i64) 3 w' w.heap.size (fun k_=>some k_ ≠ (v159 : Value).ownBlock) v3 x3_2) ∧ Aside0 (Kd.R (Kd.int .i64) 3 w' w.heap.size (fun k_=>some k_ ≠ (v3 : Value).ownBlock) v159 t158) ∧ Aside0 (w'.heap[gb153]? = some (.cells #[(.slice (some ad157) l0_0.length c0_0),(.slice A0_1 l0_1.length c0_1),.int .i64 a0_2] 36 (0,0))) ∧ Aside0 (Below w.heap.size w w'));case atStart=>exact ⟨(x3_1),(0),(by first | rfl | (simp;done) | (simp [*];done)),H',⟨Nat.le_refl _⟩,⟨by (with_reducible repeat (first | apply Kd.R_alloc | apply Kd.R_drewN | apply Kd.R_drew));exact Kd.R_mono HO_3.out (fun _ hk=>hk.2)⟩,⟨by (with_reducible repeat (first | apply Kd.R_alloc | apply Kd.R_drewN | apply Kd.R_drew));exact Kd.R_mono HO160.out (fun _ hk=>hk.2)⟩,⟨bs BK153⟩,⟨hs1 HB GE153⟩⟩
     case round =>
      clear H'
      try clear p1
      try clear q1
      try clear hx1
      try clear p2
      try clear c4
      try clear c5
      try clear c5b0
      try clear c6
      try clear c6b0
      try clear c9
      try clear hcz8_0
      try clear hcz8_1
      try clear hcz8_2
      try clear hfz8_0
      try clear hfz8_1
      try clear hfz8_2
      try clear hx157_0
      try clear hx157_1
      try clear p157
      try clear p2
      try clear q157
      obtain ⟨x3_2,x6_2,rfl,HA,HK2,HO_3,HO_5,BK153,HB⟩:=hrel;cases gk with
      | zero=>exact absurd HA.out (by simp [spec_LiveOf.l1])
      | succ k2 =>
       have H:=HA.out;clear HA;simp only [spec_LiveOf.l1] at H
       by_cases c11 : x6_2 < (t158.length : Int)
       ·rw [if_pos c11] at H;have c11b0 : decide (x6_2 < (t158.length : Int)) = true:=decide_eq_true c11;clear c11
        by_cases c12 : 0 ≤ x6_2
        ·rw [if_pos c12] at H;have c12b0 : decide (0 ≤ x6_2) = true:=decide_eq_true c12;clear c12;replace H:=Option.bind_eq_some_iff.mp H;obtain ⟨t162,A130,H⟩:=H;replace H : (spec_LiveOf.l1 k2 t162 x4_1 t158 (wrap64 (x6_2 + 1)) l0_0 l0_1 a0_2) = some r:=H;have A13:=zMk A130;clear A130;have H':=zMk H;clear H;obtain ⟨Ao14,co14,eo14⟩:=Kd.R_slice HO_5.out;subst eo14;have p161 : 0 ≤ (x6_2 : Int):=zDe (by first | (with_reducible assumption) | assumption);have q161 : x6_2 < (t158.length : Int):=zDe (by first | (with_reducible assumption) | assumption);obtain ⟨ad161,e161,hx161_0⟩:=Kd.at_int (Kd.R_reads' HO_5.out).2.2 x6_2 p161 q161;cases e161;replace p161:=eq_true p161;replace q161:=eq_true q161;obtain ⟨Ao15,co15,eo15⟩:=Kd.R_slice HO_3.out;subst eo15;go_wp2_with (first | ((with_reducible refine gate_callee (f:=45) rfl ?_);refine goesL_ (some 35) rfl rfl Try.func45 (by kernel_rfl) rfl #[.slice Ao15 x3_2.length co15,.int .i64 (rd t158 x6_2)] rfl (by (try simp only [List.map_toArray,List.map_cons,List.map_nil]);first | done | rfl | (simp only [List.length_drop,List.length_take];rfl)) ?_;(with_reducible refine (spec_l12Insert.calls k2 _ _ x3_2 (rd t158 x6_2) t162 _ ?side1 ?side2 A13.out).mono ?_);(case side1=>repeat (first | exact (Kd.R_reads' HO_3.out).2.2 | (with_reducible refine Kd.C_alloc ?_ _) | (with_reducible refine Kd.C_drewN ?_ _) | (with_reducible refine Kd.C_drew ?_)));(case side2=>exact (Kd.R_reads' HO_3.out).2.1);rintro e w16 ⟨v163,rfl,ho0,hb⟩;refine ⟨_,rfl,?_⟩;have n0_:=zMk (Kd.R_elder' (rs HO_3) (Kd.R_base ho0) hb);have n1_:=zMk (Kd.R_elder' (rs HO_5) (Kd.R_base ho0) hb);have n2_:=zMk (Kd.R_lower (Kd.R_new' (Kd.R_new' ho0 (Kd.R_lt (rs HO_3))) (Kd.R_lt (rs HO_5))) (below_size (hs1 HB GE153)));have n3_:=zMk (blk_below (g:=gb153) (o:=.cells #[.slice (some ad157) l0_0.length c0_0,.slice A0_1 l0_1.length c0_1,.int .i64 a0_2] 36 (0,0)) (bs BK153) hb);have n4_:=zMk (below_step (hs1 HB GE153) hb);clear HO_3;clear HO_5;clear BK153;clear HB;have HO_3:=n0_;have HO_5:=n1_;have HO164:=n2_;have BK153:=n3_;have HB:=n4_;clear n0_ n1_ n2_ n3_ n4_;(try clear hb);(try clear hb2);(try clear hk);(try clear hi);(try clear ho0)));go_roundg k2;case measure=>have:=HK1.out;have:=HK2.out;omega
         case rel=>exact ⟨(t162),(wrap64 (x6_2 + 1)),(by first | rfl | (simp;done) | (simp [*];done)),H',⟨by have:=HK1.out;have:=HK2.out;omega⟩,⟨by (with_reducible repeat (first | apply Kd.R_alloc | apply Kd.R_drewN | apply Kd.R_drew));exact Kd.R_mono HO164.out (fun _ hk=>hk.2)⟩,⟨by (with_reducible repeat (first | apply Kd.R_alloc | apply Kd.R_drewN | apply Kd.R_drew));exact Kd.R_mono HO_5.out (fun _ hk=>hk.2)⟩,⟨bs BK153⟩,⟨hs1 HB GE153⟩⟩
        rw [if_neg c12] at H;exact absurd H (by simp)
       rw [if_neg c11] at H;have c11b0 : decide (x6_2 < (t158.length : Int)) = false:=decide_eq_false c11;clear c11;have H':=zMk H;clear H;obtain ⟨Ao17,co17,eo17⟩:=Kd.R_slice HO_5.out;subst eo17
       go_wp2
       go_roundg k2;case measure=>have:=HK1.out;have:=HK2.out;omega
       case rel=>exact ⟨(x3_2),(wrap64 (x4_1 + 1)),(by first | rfl | (simp;done) | (simp [*];done)),H',⟨by have:=HK1.out;have:=HK2.out;omega⟩,⟨by (with_reducible repeat (first | apply Kd.R_alloc | apply Kd.R_drewN | apply Kd.R_drew));exact Kd.R_mono HO_3.out (fun _ hk=>trivial)⟩,⟨bs BK153⟩,⟨hs1 HB GE153⟩⟩
    rw [if_neg c6] at H;exact absurd H (by simp)
   rw [if_neg c5] at H;have c5b0 : decide (x4_1 < (l0_0.length : Int)) = false:=decide_eq_false c5;clear c5;obtain rfl:=Option.some.inj H;have hcz18_0 : wr.cell? ⟨gb153,0,none⟩ = some (.slice A0_0 l0_0.length c0_0):=(zCl BK153.out 0).trans rfl;have hcz18_1 : wr.cell? ⟨gb153,1,none⟩ = some (.slice A0_1 l0_1.length c0_1):=(zCl BK153.out 1).trans rfl;have hcz18_2 : wr.cell? ⟨gb153,2,none⟩ = some (.int .i64 a0_2):=(zCl BK153.out 2).trans rfl;have hfz18_0:=zFr BK153.out 0;have hfz18_1:=zFr BK153.out 1;have hfz18_2:=zFr BK153.out 2
   go_wp2
   go_ret
   exact ⟨_,by first | rfl | (simp [errW_none,errW_some] <;> rfl) | (simp [*,errW_none,errW_some] <;> rfl),rs HO_3,hs1 HB GE153⟩
def laws_toVol.f (a0_0 : Int) (a0_1 : Int) : Option (Int × Int):=some (a0_0,a0_1)
set_option maxHeartbeats 8000000 in
set_option maxRecDepth 100000 in
theorem laws_toVol.calls (a0_0 : Int) (a0_1 : Int) (r1 : Int) (r2 : Int) (w : World) (h : laws_toVol.f a0_0 a0_1 = some (r1,r2)) :
  Calls Try.prog 78 #[.agg #[.int .i64 a0_0,.int .i64 a0_1]] w fun e w'=>e = .returned (.agg #[.int .i64 r1,.int .i64 r2]) ∧ Below w.heap.size w w':=by
 have hu121:=Try.underlying121;have hu89:=Try.underlying89;have HB:=zMk (Below.refl w.heap.size w);have H : (some (a0_0,a0_1)) = some (r1,r2):=h;clear h;simp only [Option.some.injEq,Prod.mk.injEq] at H;obtain ⟨rfl,rfl⟩:=H
 go_enter Try.func78,Try.ntmps78
 go_wp2_with (first | ((with_reducible refine gate_dst (N:=1) rfl ?_);refine box_event ?hg (N:=1) ?hd (cs:=#[.int .i64 a0_0,.int .i64 a0_1]) (t:=121) ?hr ?_;(case hd=>rfl);(case hg=>rfl);(case hr=>first | (go_simp;done) | (go_simp;rfl));intro gb165 hg w2 hbox hb;have n0_:=zMk (below_step (hs HB) hb);have n1_:=zMk (hbox);have n2_:=zMk ((by rw [hg];exact (below_size (hs HB)) : w.heap.size ≤ gb165));have n3_:=zMk ((by rw [hg];exact (below_size (hs HB)) : w.heap.size ≤ gb165));clear HB;have HB:=n0_;have BK165:=n1_;have GW165:=n2_;have GE165:=n3_;clear n0_ n1_ n2_ n3_;clear hb hbox hg) | ((with_reducible refine gate_dst (N:=2) rfl ?_);refine box_event ?hg (N:=2) ?hd (cs:=#[.int .i64 0,.int .i64 0]) (t:=89) ?hr ?_;(case hd=>rfl);(case hg=>rfl);(case hr=>first | (go_simp;done) | (go_simp;rfl));intro gb166 hg w3 hbox hb;have n0_:=zMk (blk_below (g:=gb165) (o:=.cells #[.int .i64 a0_0,.int .i64 a0_1] 121 (0,0)) (bs BK165) hb);have n1_:=zMk (below_step (hs1 HB GE165) hb);have n2_:=zMk (hbox);have n3_:=zMk ((by rw [hg];exact (below_size (hs1 HB GE165)) : w.heap.size ≤ gb166));have n4_:=zMk ((by rw [hg];exact (below_size (hs1 HB GE165)) : w.heap.size ≤ gb166));have n5_:=zMk ((by rw [hg];exact Nat.ne_of_lt (blk_lt (g:=gb165) (o:=.cells #[.int .i64 a0_0,.int .i64 a0_1] 121 (0,0)) (bs BK165)) : gb165 ≠ gb166));have n6_:=zMk ((by rw [hg];exact Nat.ne_of_gt (blk_lt (g:=gb165) (o:=.cells #[.int .i64 a0_0,.int .i64 a0_1] 121 (0,0)) (bs BK165)) : gb166 ≠ gb165));clear BK165;clear HB;have BK165:=n0_;have HB:=n1_;have BK166:=n2_;have GW166:=n3_;have GE166:=n4_;have NB165_166:=n5_;have NB166_165:=n6_;clear n0_ n1_ n2_ n3_ n4_ n5_ n6_;clear hb hbox hg) | ((with_reducible refine gate_dst (N:=3) rfl ?_);refine box_event ?hg (N:=3) ?hd (cs:=#[.int .i64 0,.int .i64 0]) (t:=89) ?hr ?_;(case hd=>rfl);(case hg=>rfl);(case hr=>first | (go_simp;done) | (go_simp;rfl));intro gb167 hg w4 hbox hb;have n0_:=zMk (blk_below (g:=gb165) (o:=.cells #[.int .i64 a0_0,.int .i64 a0_1] 121 (0,0)) (bs BK165) hb);have n1_:=zMk (blk_below (g:=gb166) (o:=.cells #[.int .i64 0,.int .i64 0] 89 (0,0)) (bs BK166) hb);have n2_:=zMk (below_step (hs2 HB GE165 GE166) hb);have n3_:=zMk (hbox);have n4_:=zMk ((by rw [hg];exact (below_size (hs2 HB GE165 GE166)) : w.heap.size ≤ gb167));have n5_:=zMk ((by rw [hg];exact (below_size (hs2 HB GE165 GE166)) : w.heap.size ≤ gb167));have n6_:=zMk ((by rw [hg];exact Nat.ne_of_lt (blk_lt (g:=gb165) (o:=.cells #[.int .i64 a0_0,.int .i64 a0_1] 121 (0,0)) (bs BK165)) : gb165 ≠ gb167));have n7_:=zMk ((by rw [hg];exact Nat.ne_of_gt (blk_lt (g:=gb165) (o:=.cells #[.int .i64 a0_0,.int .i64 a0_1] 121 (0,0)) (bs BK165)) : gb167 ≠ gb165));have n8_:=zMk ((by rw [hg];exact Nat.ne_of_lt (blk_lt (g:=gb166) (o:=.cells #[.int .i64 0,.int .i64 0] 89 (0,0)) (bs BK166)) : gb166 ≠ gb167));have n9_:=zMk ((by rw [hg];exact Nat.ne_of_gt (blk_lt (g:=gb166) (o:=.cells #[.int .i64 0,.int .i64 0] 89 (0,0)) (bs BK166)) : gb167 ≠ gb166));clear BK165;clear BK166;clear HB;have BK165:=n0_;have BK166:=n1_;have HB:=n2_;have BK167:=n3_;have GW167:=n4_;have GE167:=n5_;have NB165_167:=n6_;have NB167_165:=n7_;have NB166_167:=n8_;have NB167_166:=n9_;clear n0_ n1_ n2_ n3_ n4_ n5_ n6_ n7_ n8_ n9_;clear hb hbox hg;have hnb5:=NB165_166.out;have hnc5:=NB166_165.out;have hnb6:=NB165_167.out;have hnc6:=NB167_165.out;have hcz7_0 : w4.cell? ⟨gb165,0,none⟩ = some (.int .i64 a0_0):=(zCl BK165.out 0).trans rfl;have hcz7_1 : w4.cell? ⟨gb165,1,none⟩ = some (.int .i64 a0_1):=(zCl BK165.out 1).trans rfl;have hfz7_0:=zFr BK165.out 0;have hfz7_1:=zFr BK165.out 1;have hnb8:=NB167_166.out;have hnc8:=NB166_167.out;have hcz9_0 : w4.cell? ⟨gb167,0,none⟩ = some (.int .i64 0):=(zCl BK167.out 0).trans rfl;have hcz9_1 : w4.cell? ⟨gb167,1,none⟩ = some (.int .i64 0):=(zCl BK167.out 1).trans rfl;have hfz9_0:=zFr BK167.out 0;have hfz9_1:=zFr BK167.out 1;have hcz10_0 : w4.cell? ⟨gb166,0,none⟩ = some (.int .i64 0):=(zCl BK166.out 0).trans rfl;have hcz10_1 : w4.cell? ⟨gb166,1,none⟩ = some (.int .i64 0):=(zCl BK166.out 1).trans rfl;have hfz10_0:=zFr BK166.out 0;have hfz10_1:=zFr BK166.out 1));refine bodyPost_ret (results_cell_row rfl _ _ gb166 89 #[.int .i64 a0_0,.int .i64 a0_1] (0,0) _ rfl (by (with_reducible repeat (first | refine blk_drewN ?_ _ | refine blk_drew ?_ | refine blk_alloc ?_ _));refine blk_put (cs:=#[.int .i64 a0_0,.int .i64 0]) ?_ 1 _ rfl;(with_reducible repeat (first | refine blk_drewN ?_ _ | refine blk_drew ?_ | refine blk_alloc ?_ _));refine blk_put (cs:=#[.int .i64 0,.int .i64 0]) ?_ 0 _ rfl;(with_reducible repeat (first | refine blk_drewN ?_ _ | refine blk_drew ?_ | refine blk_alloc ?_ _));refine blk_far ?_ NB166_167.out _;(with_reducible repeat (first | refine blk_drewN ?_ _ | refine blk_drew ?_ | refine blk_alloc ?_ _));refine blk_far ?_ NB166_167.out _;(with_reducible repeat (first | refine blk_drewN ?_ _ | refine blk_drew ?_ | refine blk_alloc ?_ _));exact BK166.out) Try.underlying89 rfl (by kernel_rfl)) rfl ?_;exact ⟨by first | rfl | (simp [errW_none,errW_some] <;> rfl) | (simp [*,errW_none,errW_some] <;> rfl),hs3 HB GE165 GE166 GE167⟩
def laws_toVolS.l0 : Nat → List (S121) → List (S89) → Int → Option ((List (S89)))
 | 0,_,_,_=>none
 | k + 1,x0,x3,x4=>if x4 < (x0.length : Int) then (if 0 ≤ x4 then ((laws_toVol.f ((rd_T121 x0 x4).f0) ((rd_T121 x0 x4).f1)).bind fun bt172=>(if x4 < (x3.length : Int) then (laws_toVolS.l0 k x0 (x3.set (x4 : Int).toNat (⟨bt172.1,bt172.2⟩ : S89)) (wrap64 (x4 + 1))) else (none))) else (none)) else (some x3)
def laws_toVolS.f (k : Nat) (l0 : List (S121)) : Option ((List (S89))):=if 0 ≤ (l0.length : Int) then (if ((l0.length : Int) : Int).toNat ≤ 17592186044416 then (laws_toVolS.l0 k l0 (List.replicate ((l0.length : Int) : Int).toNat z89) 0) else (none)) else (none)
theorem laws_toVolS.mono_l : ∀ k,(∀ y0 y1 y2,LeO (laws_toVolS.l0 k y0 y1 y2) (laws_toVolS.l0 (k + 1) y0 y1 y2))
 | 0=>fun _ _ _ r h=>by simp [laws_toVolS.l0] at h
 | k + 1=>by
  have ih0:=laws_toVolS.mono_l k;intro y0 y1 y2;unfold laws_toVolS.l0
  repeat' first
  | (with_reducible exact ih0 _ _ _)
  | (with_reducible exact LeO.refl _)
  | (with_reducible exact LeO.none _)
  | (with_reducible refine LeO.ite ?_ ?_)
  | (with_reducible refine LeO.bind ?_ (fun _=>?_))
  | exact ih0 _ _ _
  | exact LeO.none _
  | refine LeO.ite ?_ ?_
  | refine LeO.bind ?_ (fun _=>?_)
theorem laws_toVolS.mono : ∀ a0 k,LeO (laws_toVolS.f k a0) (laws_toVolS.f (k + 1) a0):=by
 intro a0 k;have ih0:=laws_toVolS.mono_l k;unfold laws_toVolS.f
 repeat' first
   | (with_reducible exact ih0 _ _ _)
   | (with_reducible exact LeO.refl _)
   | (with_reducible exact LeO.none _)
   | (with_reducible refine LeO.ite ?_ ?_)
   | (with_reducible refine LeO.bind ?_ (fun _=>?_))
   | exact ih0 _ _ _
   | exact LeO.none _
   | refine LeO.ite ?_ ?_
   | refine LeO.bind ?_ (fun _=>?_)
set_option maxHeartbeats 8000000 in
set_option maxRecDepth 100000 in
theorem laws_toVolS.calls (k : Nat) (A0 : Option Addr) (c0 : Nat) (l0 : List (S121)) (r : List (S89)) (w : World) (hr0 : Kd.C k121 w A0 l0.length l0) (hc0 : l0.length ≤ c0) (h : laws_toVolS.f k l0 = some r) :
  Calls Try.prog 46 #[.slice A0 l0.length c0] w fun e w'=>∃ v0_ : Value,e = .returned (v0_) ∧ Kd.R k89 89 w' w.heap.size (fun _=>True) v0_ r ∧ Below w.heap.size w w':=by
 have hu121:=Try.underlying121;have hu89:=Try.underlying89;have HR0:=zMk hr0;have HC0:=zMk hc0;clear hr0 hc0;have HB:=zMk (Below.refl w.heap.size w);have H : (if 0 ≤ (l0.length : Int) then (if ((l0.length : Int) : Int).toNat ≤ 17592186044416 then (laws_toVolS.l0 k l0 (List.replicate ((l0.length : Int) : Int).toNat z89) 0) else (none)) else (none)) = some r:=h;clear h
 by_cases c2 : 0 ≤ (l0.length : Int)
 ·rw [if_pos c2] at H;have c2b0:=eq_true c2;have c2b1 : decide (0 ≤ (l0.length : Int)) = true:=decide_eq_true c2;clear c2
  by_cases c3 : ((l0.length : Int) : Int).toNat ≤ 17592186044416
  ·rw [if_pos c3] at H;have c3b0:=eq_true c3;have c3b1 : decide (((l0.length : Int) : Int).toNat ≤ 17592186044416) = true:=decide_eq_true c3;clear c3;obtain ⟨y168,hy168⟩ : ∃ y_ : List (S89),y_ = (List.replicate ((l0.length : Int) : Int).toNat z89):=⟨_,rfl⟩;replace H : (laws_toVolS.l0 k l0 y168 0) = some r:=by first | (rw [hy168];with_reducible exact H) | (have H2_:=(Option.bind_some _ _).symm.trans H;rw [hy168];with_reducible exact H2_) | (have H2_:=(Option.bind_some _ _).symm.trans H;with_reducible exact H2_) | with_reducible exact H | (rw [hy168];exact H) | exact H
   have Ny168:=zMk hy168;clear hy168;have H':=zMk H;clear H
   go_enter Try.func46,Try.ntmps46
   go_wp2_with (first | ((with_reducible refine gate_dst (N:=7) rfl ?_);refine Kd.R_make k89 _ 89 rfl (N:=7) rfl 31 _ _ rfl (l0.length : Int) rfl rfl Try.underlying31 (.agg #[(.int .i64 0),(.int .i64 0)]) 16 info89 rfl (by decide) (by omega) z89 (ok:=fun _=>True) (okp:=fun _=>True) (k89_mkM _ _ _ z89 ) (fun _ hk=>hk) trivial (zDe (by first | (with_reducible assumption) | assumption)) (Nat.le_trans (Nat.mul_le_mul_right _ (zDe (by first | (with_reducible assumption) | assumption) : (l0.length : Int).toNat ≤ 17592186044416)) (by omega)) (Below.refl _ _) (Nat.le_refl _) ?_;intro v169 w4 ho5 hb hg_ hnew_;clear hg_ hnew_;(first | rw [← Ny168.out] at ho5 | (simp only [Int.reduceToNat] at ho5;rw [← Ny168.out] at ho5));have n0_:=zMk (Kd.R_lower ho5 (below_size (hs HB)));have n1_:=zMk (below_step (hs HB) hb);clear HB;have HO170:=n0_;have HB:=n1_;clear n0_ n1_;clear hb ho5));go_loopg [4] k (fun kq v4 w'=>∃ (x3_1 : List (S89)) (x4_1 : Int),v4 = .int .i64 x4_1 ∧ Aside0 (laws_toVolS.l0 kq l0 x3_1 x4_1 = some r) ∧ Aside0 (kq ≤ k) ∧ Aside0 (Kd.R k89 89 w' w.heap.size (fun _=>True) v169 x3_1) ∧ Aside0 (Below w.heap.size w w'));case atStart=>exact ⟨(y168),(0),(by first | rfl | (simp;done) | (simp [*];done)),H',⟨Nat.le_refl _⟩,⟨rs HO170⟩,⟨hs HB⟩⟩
   case round =>
    clear H'
    try clear c2
    try clear c2b0
    try clear c2b1
    try clear p2
    try clear c3
    try clear c3b0
    try clear c3b1
    try clear c4
    obtain ⟨x3_1,x4_1,rfl,HA,HK1,HO_3,HB⟩:=hrel;cases gk with
    | zero=>exact absurd HA.out (by simp [laws_toVolS.l0])
    | succ k1 =>
     have H:=HA.out;clear HA;simp only [laws_toVolS.l0] at H
     by_cases c6 : x4_1 < (l0.length : Int)
     ·rw [if_pos c6] at H;have c6b0 : decide (x4_1 < (l0.length : Int)) = true:=decide_eq_true c6;clear c6
      by_cases c7 : 0 ≤ x4_1
      ·rw [if_pos c7] at H;have c7b0 : decide (0 ≤ x4_1) = true:=decide_eq_true c7;clear c7;replace H:=Option.bind_eq_some_iff.mp H;obtain ⟨⟨t172,t173⟩,A80,H⟩:=H;replace H : (if x4_1 < (x3_1.length : Int) then (laws_toVolS.l0 k1 l0 (x3_1.set (x4_1 : Int).toNat (⟨t172,t173⟩ : S89)) (wrap64 (x4_1 + 1))) else (none)) = some r:=H;have A8:=zMk A80;clear A80
       by_cases c9 : x4_1 < (x3_1.length : Int)
       ·rw [if_pos c9] at H;have c9b0 : decide (x4_1 < (x3_1.length : Int)) = true:=decide_eq_true c9;clear c9;obtain ⟨y174,hy174⟩ : ∃ y_ : List (S89),y_ = (x3_1.set (x4_1 : Int).toNat (⟨t172,t173⟩ : S89)):=⟨_,rfl⟩;replace H : (laws_toVolS.l0 k1 l0 y174 (wrap64 (x4_1 + 1))) = some r:=by first | (rw [hy174];with_reducible exact H) | (have H2_:=(Option.bind_some _ _).symm.trans H;rw [hy174];with_reducible exact H2_) | (have H2_:=(Option.bind_some _ _).symm.trans H;with_reducible exact H2_) | with_reducible exact H | (rw [hy174];exact H) | exact H
        have Ny174:=zMk hy174;clear hy174;have H':=zMk H;clear H;have p171 : 0 ≤ (x4_1 : Int):=zDe (by first | (with_reducible assumption) | assumption);have q171 : x4_1 < (l0.length : Int):=zDe (by first | (with_reducible assumption) | assumption);obtain ⟨ad171,e171,hx171_0,hx171_1⟩:=at_T121 HR0.out x4_1 p171 q171;cases e171;replace hx171_0:=(HB.out.cell (zBl w _ hx171_0)).trans hx171_0;replace hx171_1:=(HB.out.cell (zBl w _ hx171_1)).trans hx171_1;replace p171:=eq_true p171;replace q171:=eq_true q171;go_wp2_with (first | ((with_reducible refine gate_callee (f:=78) rfl ?_);refine goesL_ (some 20) rfl rfl Try.func78 (by kernel_rfl) rfl #[.agg #[.int .i64 ((rd_T121 l0 x4_1).f0),.int .i64 ((rd_T121 l0 x4_1).f1)]] rfl (by (try simp only [List.map_toArray,List.map_cons,List.map_nil]);first | done | rfl | (simp only [List.length_drop,List.length_take];rfl)) ?_;(with_reducible refine (laws_toVol.calls ((rd_T121 l0 x4_1).f0) ((rd_T121 l0 x4_1).f1) t172 t173 _ A8.out).mono ?_);rintro e w11 ⟨rfl,hb⟩;refine ⟨_,rfl,?_⟩;have n0_:=zMk (Kd.R_below (rs HO_3) hb);have n1_:=zMk (below_step (hs HB) hb);clear HO_3;clear HB;have HO_3:=n0_;have HB:=n1_;clear n0_ n1_;(try clear hb);(try clear hb2);(try clear hk);(try clear hi);have p10 : 0 ≤ (x4_1 : Int):=zDe (by first | (with_reducible assumption) | assumption);have q10 : (x4_1 : Int) < ((x3_1.length : Int) : Int):=zDe (by first | (with_reducible assumption) | assumption);obtain ⟨go10,co10,eo10,gb10,gl10,cl10,HG10⟩:=Kd.R_form HO_3.out (by omega);(first | cases eo10 | (injection eo10 with ea_ en_ ec_;(first | subst ea_ | (injection ea_ with ea_;subst ea_));subst ec_;clear en_));have GB10:=zMk gb10;have GG10:=zMk HG10;clear gb10 gl10 HG10;obtain ⟨ce10,hcl10,hM10,hcc10,hfr10⟩:=Kd.R_elem HO_3.out z89 (x4_1 : Int) p10 q10;obtain rfl:=k89_openM hM10;have hx10_0 : w11.cell? ⟨go10,(x4_1 : Int).toNat * 2,none⟩ = some (.int .i64 ((rd_T89 x3_1 x4_1).f0)):=hcc10 0 _ rfl;have hx10_1 : w11.cell? ⟨go10,(x4_1 : Int).toNat * 2 + 1,none⟩ = some (.int .i64 ((rd_T89 x3_1 x4_1).f1)):=hcc10 1 _ rfl;have hf10_0 : w11.frozen? ⟨go10,(x4_1 : Int).toNat * 2,none⟩ = false:=hfr10 0;have hf10_1 : w11.frozen? ⟨go10,(x4_1 : Int).toNat * 2 + 1,none⟩ = false:=hfr10 1;clear hcl10 hcc10 hfr10 hM10;replace p10:=eq_true p10;replace q10:=eq_true q10;have HX12:=zMk (show Kd.R k89 89 w11 w.heap.size (fun _=>True) (.slice (some ⟨go10,0,none⟩) x3_1.length co10) x3_1 from (rs HO_3));obtain ⟨ce12,hcl12,hM12,hcc12,hfr12⟩:=Kd.R_elem HX12.out z89 (x4_1 : Int) (zDe (by first | (with_reducible assumption) | assumption)) (by have h_ : (x4_1 : Int) < ((x3_1.length : Int) : Int):=zDe (by first | (with_reducible assumption) | assumption);first | exact h_ | (have e_:=(Kd.R_reads' HO_3.out).1;omega) | simpa using h_);obtain rfl:=k89_openM hM12;have HP12:=Kd.R_seg HX12.out (x4_1 : Int) (zDe (by first | (with_reducible assumption) | assumption)) (by have h_ : (x4_1 : Int) < ((x3_1.length : Int) : Int):=zDe (by first | (with_reducible assumption) | assumption);first | exact h_ | (have e_:=(Kd.R_reads' HO_3.out).1;omega) | simpa using h_) (seg:=[.int .i64 t172,.int .i64 t173]) (j:=0) hcl12 hcc12 (show 2 ≤ 2 from by decide) (x':=(⟨t172,t173⟩ : S89)) (k89_mkM _ _ _ (⟨t172,t173⟩ : S89) ) (fun _ hk=>hk);have hx12_0:=hcc12 0 _ rfl;(try simp only [show (k89).sz = 2 from rfl,Nat.mul_one,Nat.add_zero] at hx12_0);have hf12_0:=hfr12 0;(try simp only [show (k89).sz = 2 from rfl,Nat.mul_one,Nat.add_zero] at hf12_0);have hx12_1:=hcc12 1 _ rfl;(try simp only [show (k89).sz = 2 from rfl,Nat.mul_one,Nat.add_zero] at hx12_1);have hf12_1:=hfr12 1;(try simp only [show (k89).sz = 2 from rfl,Nat.mul_one,Nat.add_zero] at hf12_1);clear hcl12 hcc12 hfr12 hM12) | ((with_reducible refine gate_store (t:=89) (p:=21) rfl ?_);refine store_event (t:=89) (p:=21) (v:=?vo_w13) (w1:=((w11.setCell ⟨go10,(x4_1 : Int).toNat * 2,none⟩ (.int .i64 t172)).setCell ⟨go10,(x4_1 : Int).toNat * 2 + 1,none⟩ (.int .i64 t173))) ?hg ?ho ?hn ?hr ?_;(case ho=>rfl);(case hg=>rfl);(case hn=>rfl);(case hr=>first | (go_simp;done) | (go_simp;rfl));intro w13 hw;have hg : w11.grownBy w13 (some go10):=(by rw [hw];exact HP12.2);have hp_ : Kd.R k89 89 w13 w.heap.size (fun _=>True) (.slice (some ⟨go10,0,none⟩) x3_1.length co10) y174:=(by rw [hw,Ny174.out];exact HP12.1);clear HP12;have n0_:=zMk (hp_);have n1_:=zMk ((by rw [hw];exact below_set (below_set (HB.out) GB10.out) GB10.out : Below w.heap.size w w13));clear HO_3;clear HB;have HO_3:=n0_;have HB:=n1_;clear n0_ n1_;clear hg hw hp_));go_roundg k1;case measure=>have:=HK1.out;omega
        case rel=>exact ⟨(y174),(wrap64 (x4_1 + 1)),(by first | rfl | (simp;done) | (simp [*];done)),H',⟨by have:=HK1.out;omega⟩,⟨rs HO_3⟩,⟨hs HB⟩⟩
       rw [if_neg c9] at H;exact absurd H (by simp)
      rw [if_neg c7] at H;exact absurd H (by simp)
     rw [if_neg c6] at H;have c6b0 : decide (x4_1 < (l0.length : Int)) = false:=decide_eq_false c6;clear c6;obtain rfl:=Option.some.inj H
     go_wp2
     go_ret
     exact ⟨_,by first | rfl | (simp [errW_none,errW_some] <;> rfl) | (simp [*,errW_none,errW_some] <;> rfl),rs HO_3,hs HB⟩
  rw [if_neg c3] at H;exact absurd H (by simp)
 rw [if_neg c2] at H;exact absurd H (by simp)
def laws_toIntS.l0 : Nat → List Int → List Int → Int → Option (List Int)
 | 0,_,_,_=>none
 | k + 1,x0,x3,x4=>if x4 < (x0.length : Int) then (if 0 ≤ x4 then (if x4 < (x3.length : Int) then (laws_toIntS.l0 k x0 (x3.set (x4 : Int).toNat (rd x0 x4)) (wrap64 (x4 + 1))) else (none)) else (none)) else (some x3)
def laws_toIntS.f (k : Nat) (l0 : List Int) : Option (List Int):=if 0 ≤ (l0.length : Int) then (if ((l0.length : Int) : Int).toNat ≤ 35184372088832 then (laws_toIntS.l0 k l0 (List.replicate ((l0.length : Int) : Int).toNat 0) 0) else (none)) else (none)
theorem laws_toIntS.mono_l : ∀ k,(∀ y0 y1 y2,LeO (laws_toIntS.l0 k y0 y1 y2) (laws_toIntS.l0 (k + 1) y0 y1 y2))
 | 0=>fun _ _ _ r h=>by simp [laws_toIntS.l0] at h
 | k + 1=>by
  have ih0:=laws_toIntS.mono_l k;intro y0 y1 y2;unfold laws_toIntS.l0
  repeat' first
  | (with_reducible exact ih0 _ _ _)
  | (with_reducible exact LeO.refl _)
  | (with_reducible exact LeO.none _)
  | (with_reducible refine LeO.ite ?_ ?_)
  | (with_reducible refine LeO.bind ?_ (fun _=>?_))
  | exact ih0 _ _ _
  | exact LeO.none _
  | refine LeO.ite ?_ ?_
  | refine LeO.bind ?_ (fun _=>?_)
theorem laws_toIntS.mono : ∀ a0 k,LeO (laws_toIntS.f k a0) (laws_toIntS.f (k + 1) a0):=by
 intro a0 k;have ih0:=laws_toIntS.mono_l k;unfold laws_toIntS.f
 repeat' first
   | (with_reducible exact ih0 _ _ _)
   | (with_reducible exact LeO.refl _)
   | (with_reducible exact LeO.none _)
   | (with_reducible refine LeO.ite ?_ ?_)
   | (with_reducible refine LeO.bind ?_ (fun _=>?_))
   | exact ih0 _ _ _
   | exact LeO.none _
   | refine LeO.ite ?_ ?_
   | refine LeO.bind ?_ (fun _=>?_)
set_option maxHeartbeats 8000000 in
set_option maxRecDepth 100000 in
theorem laws_toIntS.calls (k : Nat) (A0 : Option Addr) (c0 : Nat) (l0 : List Int) (r : List Int) (w : World) (hr0 : Kd.C (Kd.int .i64) w A0 l0.length l0) (hc0 : l0.length ≤ c0) (h : laws_toIntS.f k l0 = some r) :
  Calls Try.prog 119 #[.slice A0 l0.length c0] w fun e w'=>∃ v0_ : Value,e = .returned (v0_) ∧ Kd.R (Kd.int .i64) 3 w' w.heap.size (fun _=>True) v0_ r ∧ Below w.heap.size w w':=by
 have HR0:=zMk hr0;have HC0:=zMk hc0;clear hr0 hc0;have HB:=zMk (Below.refl w.heap.size w);have H : (if 0 ≤ (l0.length : Int) then (if ((l0.length : Int) : Int).toNat ≤ 35184372088832 then (laws_toIntS.l0 k l0 (List.replicate ((l0.length : Int) : Int).toNat 0) 0) else (none)) else (none)) = some r:=h;clear h
 by_cases c2 : 0 ≤ (l0.length : Int)
 ·rw [if_pos c2] at H;have c2b0:=eq_true c2;have c2b1 : decide (0 ≤ (l0.length : Int)) = true:=decide_eq_true c2;clear c2
  by_cases c3 : ((l0.length : Int) : Int).toNat ≤ 35184372088832
  ·rw [if_pos c3] at H;have c3b0:=eq_true c3;have c3b1 : decide (((l0.length : Int) : Int).toNat ≤ 35184372088832) = true:=decide_eq_true c3;clear c3;obtain ⟨y175,hy175⟩ : ∃ y_ : List Int,y_ = (List.replicate ((l0.length : Int) : Int).toNat 0):=⟨_,rfl⟩;replace H : (laws_toIntS.l0 k l0 y175 0) = some r:=by first | (rw [hy175];with_reducible exact H) | (have H2_:=(Option.bind_some _ _).symm.trans H;rw [hy175];with_reducible exact H2_) | (have H2_:=(Option.bind_some _ _).symm.trans H;with_reducible exact H2_) | with_reducible exact H | (rw [hy175];exact H) | exact H
   have Ny175:=zMk hy175;clear hy175;have H':=zMk H;clear H
   go_enter Try.func119,Try.ntmps119
   go_wp2_with (first | ((with_reducible refine gate_dst (N:=7) rfl ?_);refine Kd.R_make (Kd.int .i64) _ 3 rfl (N:=7) rfl 29 _ _ rfl (l0.length : Int) rfl rfl Try.underlying29 (.int .i64 0) 8 info3 rfl (by decide) (by omega) 0 (ok:=fun _=>True) (okp:=fun _=>True) rfl (fun _ hk=>hk) trivial (zDe (by first | (with_reducible assumption) | assumption)) (Nat.le_trans (Nat.mul_le_mul_right _ (zDe (by first | (with_reducible assumption) | assumption) : (l0.length : Int).toNat ≤ 35184372088832)) (by omega)) (Below.refl _ _) (Nat.le_refl _) ?_;intro v176 w4 ho5 hb hg_ hnew_;clear hg_ hnew_;(first | rw [← Ny175.out] at ho5 | (simp only [Int.reduceToNat] at ho5;rw [← Ny175.out] at ho5));have n0_:=zMk (Kd.R_lower ho5 (below_size (hs HB)));have n1_:=zMk (below_step (hs HB) hb);clear HB;have HO177:=n0_;have HB:=n1_;clear n0_ n1_;clear hb ho5));go_loopg [4] k (fun kq v4 w'=>∃ (x3_1 : List Int) (x4_1 : Int),v4 = .int .i64 x4_1 ∧ Aside0 (laws_toIntS.l0 kq l0 x3_1 x4_1 = some r) ∧ Aside0 (kq ≤ k) ∧ Aside0 (Kd.R (Kd.int .i64) 3 w' w.heap.size (fun _=>True) v176 x3_1) ∧ Aside0 (Below w.heap.size w w'));case atStart=>exact ⟨(y175),(0),(by first | rfl | (simp;done) | (simp [*];done)),H',⟨Nat.le_refl _⟩,⟨rs HO177⟩,⟨hs HB⟩⟩
   case round =>
    clear H'
    try clear c1
    try clear c2
    try clear c2b0
    try clear c2b1
    try clear p2
    try clear c3
    try clear c3b0
    try clear c3b1
    obtain ⟨x3_1,x4_1,rfl,HA,HK1,HO_3,HB⟩:=hrel;cases gk with
    | zero=>exact absurd HA.out (by simp [laws_toIntS.l0])
    | succ k1 =>
     have H:=HA.out;clear HA;simp only [laws_toIntS.l0] at H
     by_cases c6 : x4_1 < (l0.length : Int)
     ·rw [if_pos c6] at H;have c6b0 : decide (x4_1 < (l0.length : Int)) = true:=decide_eq_true c6;clear c6
      by_cases c7 : 0 ≤ x4_1
      ·rw [if_pos c7] at H;have c7b0 : decide (0 ≤ x4_1) = true:=decide_eq_true c7;clear c7
       by_cases c8 : x4_1 < (x3_1.length : Int)
       ·rw [if_pos c8] at H;have c8b0 : decide (x4_1 < (x3_1.length : Int)) = true:=decide_eq_true c8;clear c8;obtain ⟨y179,hy179⟩ : ∃ y_ : List Int,y_ = (x3_1.set (x4_1 : Int).toNat (rd l0 x4_1)):=⟨_,rfl⟩;replace H : (laws_toIntS.l0 k1 l0 y179 (wrap64 (x4_1 + 1))) = some r:=by first | (rw [hy179];with_reducible exact H) | (have H2_:=(Option.bind_some _ _).symm.trans H;rw [hy179];with_reducible exact H2_) | (have H2_:=(Option.bind_some _ _).symm.trans H;with_reducible exact H2_) | with_reducible exact H | (rw [hy179];exact H) | exact H
        have Ny179:=zMk hy179;clear hy179;have H':=zMk H;clear H;have p178 : 0 ≤ (x4_1 : Int):=zDe (by first | (with_reducible assumption) | assumption);have q178 : x4_1 < (l0.length : Int):=zDe (by first | (with_reducible assumption) | assumption);obtain ⟨ad178,e178,hx178_0⟩:=Kd.at_int HR0.out x4_1 p178 q178;cases e178;replace hx178_0:=(HB.out.cell (zBl w _ hx178_0)).trans hx178_0;replace p178:=eq_true p178;replace q178:=eq_true q178;have p9 : 0 ≤ (x4_1 : Int):=zDe (by first | (with_reducible assumption) | assumption);have q9 : (x4_1 : Int) < ((x3_1.length : Int) : Int):=zDe (by first | (with_reducible assumption) | assumption);obtain ⟨go9,co9,eo9,gb9,gl9,cl9,HG9⟩:=Kd.R_form HO_3.out (by omega)
        (first | cases eo9 | (injection eo9 with ea_ en_ ec_;(first | subst ea_ | (injection ea_ with ea_;subst ea_));subst ec_;clear en_))
        have GB9:=zMk gb9;have GG9:=zMk HG9;clear gb9 gl9 HG9;obtain ⟨hx9_0,hf9_0⟩:=Kd.R_celln 0 HO_3.out (x4_1 : Int) p9 q9;replace p9:=eq_true p9;replace q9:=eq_true q9;have HP10:=Kd.R_putg HO_3.out (x4_1 : Int) (rd l0 x4_1);go_wp2_with (first | ((with_reducible refine gate_store (t:=3) (p:=20) rfl ?_);refine store_event (t:=3) (p:=20) (v:=?vo_w11) (w1:=(wr.setCell ⟨go9,(x4_1 : Int).toNat,none⟩ (.int .i64 (rd l0 x4_1)))) ?hg ?ho ?hn ?hr ?_;(case ho=>rfl);(case hg=>rfl);(case hn=>rfl);(case hr=>first | (go_simp;done) | (go_simp;rfl));intro w11 hw;have hg : wr.grownBy w11 (some go9):=(by rw [hw];exact HP10.2);have hp_ : Kd.R (Kd.int .i64) 3 w11 w.heap.size (fun _=>True) (.slice (some ⟨go9,0,none⟩) x3_1.length co9) y179:=(by rw [hw,Ny179.out];exact HP10.1);clear HP10;have n0_:=zMk (hp_);have n1_:=zMk ((by rw [hw];exact below_set (HB.out) GB9.out : Below w.heap.size w w11));clear HO_3;clear HB;have HO_3:=n0_;have HB:=n1_;clear n0_ n1_;clear hg hw hp_));go_roundg k1;case measure=>have:=HK1.out;omega
        case rel=>exact ⟨(y179),(wrap64 (x4_1 + 1)),(by first | rfl | (simp;done) | (simp [*];done)),H',⟨by have:=HK1.out;omega⟩,⟨rs HO_3⟩,⟨hs HB⟩⟩
       rw [if_neg c8] at H;exact absurd H (by simp)
      rw [if_neg c7] at H;exact absurd H (by simp)
     rw [if_neg c6] at H;have c6b0 : decide (x4_1 < (l0.length : Int)) = false:=decide_eq_false c6;clear c6;obtain rfl:=Option.some.inj H
     go_wp2
     go_ret
     exact ⟨_,by first | rfl | (simp [errW_none,errW_some] <;> rfl) | (simp [*,errW_none,errW_some] <;> rfl),rs HO_3,hs HB⟩
  rw [if_neg c3] at H;exact absurd H (by simp)
 rw [if_neg c2] at H;exact absurd H (by simp)
def laws_toKnot.f (k : Nat) (a0_0 : Bool) (l0_1 : List Int) : Option (Bool × List Int):=(laws_toIntS.f k l0_1).bind fun t183=>(some (a0_0,t183))
theorem laws_toKnot.mono : ∀ a0 a1 k,LeO (laws_toKnot.f k a0 a1) (laws_toKnot.f (k + 1) a0 a1):=by
 intro a0 a1 k;unfold laws_toKnot.f
 repeat' first
   | (with_reducible exact laws_toIntS.mono _ _)
   | (with_reducible exact LeO.refl _)
   | (with_reducible exact LeO.none _)
   | (with_reducible refine LeO.ite ?_ ?_)
   | (with_reducible refine LeO.bind ?_ (fun _=>?_))
   | exact laws_toIntS.mono _ _
   | exact LeO.none _
   | refine LeO.ite ?_ ?_
   | refine LeO.bind ?_ (fun _=>?_)
set_option maxHeartbeats 8000000 in
set_option maxRecDepth 100000 in
theorem laws_toKnot.calls (k : Nat) (a0_0 : Bool) (A0_1 : Option Addr) (c0_1 : Nat) (l0_1 : List Int) (r1 : Bool) (r2 : List Int) (w : World) (hr0_1 : Kd.C (Kd.int .i64) w A0_1 l0_1.length l0_1) (hc0_1 : l0_1.length ≤ c0_1) (h : laws_toKnot.f k a0_0 l0_1 = some (r1,r2)) :
  Calls Try.prog 102 #[.agg #[.bool a0_0,.slice A0_1 l0_1.length c0_1]] w fun e w'=>∃ v1_ : Value,e = .returned (.agg #[.bool r1,v1_]) ∧ Kd.R (Kd.int .i64) 3 w' w.heap.size (fun _=>True) v1_ r2 ∧ Below w.heap.size w w':=by
 have hu144:=Try.underlying144;have hu147:=Try.underlying147;have HR0_1:=zMk hr0_1;have HC0_1:=zMk hc0_1;clear hr0_1 hc0_1;have HB:=zMk (Below.refl w.heap.size w);have H : ((laws_toIntS.f k l0_1).bind fun t183=>(some (a0_0,t183))) = some (r1,r2):=h;clear h;replace H:=Option.bind_eq_some_iff.mp H;obtain ⟨t183,A20,H⟩:=H;replace H : (some (a0_0,t183)) = some (r1,r2):=H;have A2:=zMk A20;clear A20;simp only [Option.some.injEq,Prod.mk.injEq] at H;obtain ⟨rfl,rfl⟩:=H
 go_enter Try.func102,Try.ntmps102
 go_wp2_with (first | ((with_reducible refine gate_dst (N:=1) rfl ?_);refine box_event ?hg (N:=1) ?hd (cs:=#[.bool a0_0,.slice A0_1 l0_1.length c0_1]) (t:=144) ?hr ?_;(case hd=>rfl);(case hg=>rfl);(case hr=>first | (go_simp;done) | (go_simp;rfl));intro gb180 hg w3 hbox hb;have n0_:=zMk (below_step (hs HB) hb);have n1_:=zMk (hbox);have n2_:=zMk ((by rw [hg];exact (below_size (hs HB)) : w.heap.size ≤ gb180));have n3_:=zMk ((by rw [hg];exact (below_size (hs HB)) : w.heap.size ≤ gb180));clear HB;have HB:=n0_;have BK180:=n1_;have GW180:=n2_;have GE180:=n3_;clear n0_ n1_ n2_ n3_;clear hb hbox hg) | ((with_reducible refine gate_dst (N:=2) rfl ?_);refine box_event ?hg (N:=2) ?hd (cs:=#[.bool false,.slice none 0 0]) (t:=147) ?hr ?_;(case hd=>rfl);(case hg=>rfl);(case hr=>first | (go_simp;done) | (go_simp;rfl));intro gb181 hg w4 hbox hb;have n0_:=zMk (blk_below (g:=gb180) (o:=.cells #[.bool a0_0,.slice A0_1 l0_1.length c0_1] 144 (0,0)) (bs BK180) hb);have n1_:=zMk (below_step (hs1 HB GE180) hb);have n2_:=zMk (hbox);have n3_:=zMk ((by rw [hg];exact (below_size (hs1 HB GE180)) : w.heap.size ≤ gb181));have n4_:=zMk ((by rw [hg];exact (below_size (hs1 HB GE180)) : w.heap.size ≤ gb181));have n5_:=zMk ((by rw [hg];exact Nat.ne_of_lt (blk_lt (g:=gb180) (o:=.cells #[.bool a0_0,.slice A0_1 l0_1.length c0_1] 144 (0,0)) (bs BK180)) : gb180 ≠ gb181));have n6_:=zMk ((by rw [hg];exact Nat.ne_of_gt (blk_lt (g:=gb180) (o:=.cells #[.bool a0_0,.slice A0_1 l0_1.length c0_1] 144 (0,0)) (bs BK180)) : gb181 ≠ gb180));clear BK180;clear HB;have BK180:=n0_;have HB:=n1_;have BK181:=n2_;have GW181:=n3_;have GE181:=n4_;have NB180_181:=n5_;have NB181_180:=n6_;clear n0_ n1_ n2_ n3_ n4_ n5_ n6_;clear hb hbox hg) | ((with_reducible refine gate_dst (N:=3) rfl ?_);refine box_event ?hg (N:=3) ?hd (cs:=#[.bool false,.slice none 0 0]) (t:=147) ?hr ?_;(case hd=>rfl);(case hg=>rfl);(case hr=>first | (go_simp;done) | (go_simp;rfl));intro gb182 hg w5 hbox hb;have n0_:=zMk (blk_below (g:=gb180) (o:=.cells #[.bool a0_0,.slice A0_1 l0_1.length c0_1] 144 (0,0)) (bs BK180) hb);have n1_:=zMk (blk_below (g:=gb181) (o:=.cells #[.bool false,.slice none 0 0] 147 (0,0)) (bs BK181) hb);have n2_:=zMk (below_step (hs2 HB GE180 GE181) hb);have n3_:=zMk (hbox);have n4_:=zMk ((by rw [hg];exact (below_size (hs2 HB GE180 GE181)) : w.heap.size ≤ gb182));have n5_:=zMk ((by rw [hg];exact (below_size (hs2 HB GE180 GE181)) : w.heap.size ≤ gb182));have n6_:=zMk ((by rw [hg];exact Nat.ne_of_lt (blk_lt (g:=gb180) (o:=.cells #[.bool a0_0,.slice A0_1 l0_1.length c0_1] 144 (0,0)) (bs BK180)) : gb180 ≠ gb182));have n7_:=zMk ((by rw [hg];exact Nat.ne_of_gt (blk_lt (g:=gb180) (o:=.cells #[.bool a0_0,.slice A0_1 l0_1.length c0_1] 144 (0,0)) (bs BK180)) : gb182 ≠ gb180));have n8_:=zMk ((by rw [hg];exact Nat.ne_of_lt (blk_lt (g:=gb181) (o:=.cells #[.bool false,.slice none 0 0] 147 (0,0)) (bs BK181)) : gb181 ≠ gb182));have n9_:=zMk ((by rw [hg];exact Nat.ne_of_gt (blk_lt (g:=gb181) (o:=.cells #[.bool false,.slice none 0 0] 147 (0,0)) (bs BK181)) : gb182 ≠ gb181));clear BK180;clear BK181;clear HB;have BK180:=n0_;have BK181:=n1_;have HB:=n2_;have BK182:=n3_;have GW182:=n4_;have GE182:=n5_;have NB180_182:=n6_;have NB182_180:=n7_;have NB181_182:=n8_;have NB182_181:=n9_;clear n0_ n1_ n2_ n3_ n4_ n5_ n6_ n7_ n8_ n9_;clear hb hbox hg;have hnb6:=NB180_181.out;have hnc6:=NB181_180.out;have hnb7:=NB180_182.out;have hnc7:=NB182_180.out;have hcz8_0 : w5.cell? ⟨gb180,0,none⟩ = some (.bool a0_0):=(zCl BK180.out 0).trans rfl;have hcz8_1 : w5.cell? ⟨gb180,1,none⟩ = some (.slice A0_1 l0_1.length c0_1):=(zCl BK180.out 1).trans rfl;have hfz8_0:=zFr BK180.out 0;have hfz8_1:=zFr BK180.out 1;have hnb9:=NB182_181.out;have hnc9:=NB181_182.out;have hcz10_0 : w5.cell? ⟨gb182,0,none⟩ = some (.bool false):=(zCl BK182.out 0).trans rfl;have hcz10_1 : w5.cell? ⟨gb182,1,none⟩ = some (.slice none 0 0):=(zCl BK182.out 1).trans rfl;have hfz10_0:=zFr BK182.out 0;have hfz10_1:=zFr BK182.out 1) | ((with_reducible refine gate_callee (f:=119) rfl ?_);refine goesL_ (some 9) rfl rfl Try.func119 (by kernel_rfl) rfl #[.slice A0_1 l0_1.length c0_1] rfl (by (try simp only [List.map_toArray,List.map_cons,List.map_nil]);first | done | rfl | (simp only [List.length_drop,List.length_take];rfl)) ?_;(with_reducible refine (laws_toIntS.calls k _ _ l0_1 t183 _ ?side1 ?side2 A2.out).mono ?_);(case side1=>exact Kd.C_below HR0_1.out (hs3 HB GE180 GE181 GE182));(case side2=>exact HC0_1.out);rintro e w11 ⟨v184,rfl,ho0,hb⟩;refine ⟨_,rfl,?_⟩;have n0_:=zMk (Kd.R_lower ho0 (below_size (hs3 HB GE180 GE181 GE182)));have n1_:=zMk (blk_below (g:=gb180) (o:=.cells #[.bool a0_0,.slice A0_1 l0_1.length c0_1] 144 (0,0)) (by (with_reducible repeat (first | refine blk_drewN ?_ _ | refine blk_drew ?_ | refine blk_alloc ?_ _));refine blk_far ?_ NB180_182.out _;(with_reducible repeat (first | refine blk_drewN ?_ _ | refine blk_drew ?_ | refine blk_alloc ?_ _));exact BK180.out) hb);have n2_:=zMk (blk_below (g:=gb181) (o:=.cells #[.bool false,.slice none 0 0] 147 (0,0)) (by (with_reducible repeat (first | refine blk_drewN ?_ _ | refine blk_drew ?_ | refine blk_alloc ?_ _));refine blk_far ?_ NB181_182.out _;(with_reducible repeat (first | refine blk_drewN ?_ _ | refine blk_drew ?_ | refine blk_alloc ?_ _));exact BK181.out) hb);have n3_:=zMk (blk_below (g:=gb182) (o:=.cells #[.bool a0_0,.slice none 0 0] 147 (0,0)) (by (with_reducible repeat (first | refine blk_drewN ?_ _ | refine blk_drew ?_ | refine blk_alloc ?_ _));refine blk_put (cs:=#[.bool false,.slice none 0 0]) ?_ 0 _ rfl;(with_reducible repeat (first | refine blk_drewN ?_ _ | refine blk_drew ?_ | refine blk_alloc ?_ _));exact BK182.out) hb);have n4_:=zMk (below_step (hs3 HB GE180 GE181 GE182) hb);clear BK180;clear BK181;clear BK182;clear HB;have HO185:=n0_;have BK180:=n1_;have BK181:=n2_;have BK182:=n3_;have HB:=n4_;clear n0_ n1_ n2_ n3_ n4_;(try clear hb);(try clear hb2);(try clear hk);(try clear hi);(try clear ho0);obtain ⟨Ao12,co12,eo12⟩:=Kd.R_slice HO185.out;subst eo12;have hcz13_0 : w11.cell? ⟨gb182,0,none⟩ = some (.bool a0_0):=(zCl BK182.out 0).trans rfl;have hcz13_1 : w11.cell? ⟨gb182,1,none⟩ = some (.slice none 0 0):=(zCl BK182.out 1).trans rfl;have hfz13_0:=zFr BK182.out 0;have hfz13_1:=zFr BK182.out 1;have hcz14_0 : w11.cell? ⟨gb181,0,none⟩ = some (.bool false):=(zCl BK181.out 0).trans rfl;have hcz14_1 : w11.cell? ⟨gb181,1,none⟩ = some (.slice none 0 0):=(zCl BK181.out 1).trans rfl;have hfz14_0:=zFr BK181.out 0;have hfz14_1:=zFr BK181.out 1));refine bodyPost_ret (results_cell_row rfl _ _ gb181 147 #[.bool a0_0,.slice Ao12 t183.length co12] (0,0) _ rfl (by (with_reducible repeat (first | refine blk_drewN ?_ _ | refine blk_drew ?_ | refine blk_alloc ?_ _));refine blk_put (cs:=#[.bool a0_0,.slice none 0 0]) ?_ 1 _ rfl;(with_reducible repeat (first | refine blk_drewN ?_ _ | refine blk_drew ?_ | refine blk_alloc ?_ _));refine blk_put (cs:=#[.bool false,.slice none 0 0]) ?_ 0 _ rfl;(with_reducible repeat (first | refine blk_drewN ?_ _ | refine blk_drew ?_ | refine blk_alloc ?_ _));refine blk_far ?_ NB181_182.out _;(with_reducible repeat (first | refine blk_drewN ?_ _ | refine blk_drew ?_ | refine blk_alloc ?_ _));exact BK181.out) Try.underlying147 rfl (by kernel_rfl)) rfl ?_;exact ⟨_,by first | rfl | (simp [errW_none,errW_some] <;> rfl) | (simp [*,errW_none,errW_some] <;> rfl),by (with_reducible repeat (first | apply Kd.R_alloc | apply Kd.R_drewN | apply Kd.R_drew));exact Kd.R_mono (Kd.R_far (p:=⟨gb181,1,none⟩) (Kd.R_far (p:=⟨gb181,0,none⟩) (Kd.R_far (p:=⟨gb182,1,none⟩) (Kd.R_types (Kd.R_types HO185.out BK182.out (by decide)) BK181.out (by decide)) (fun _ hk=>hk.1.2) (.slice Ao12 t183.length co12)) (fun _ hk=>hk.2) (.bool a0_0)) (fun _ hk=>hk.2) (.slice Ao12 t183.length co12)) (fun _ hk=>trivial),hs3 HB GE180 GE181 GE182⟩
def laws_toKnotS.l0 : Nat → List (S144) → List (S147) → Int → Option ((List (S147)))
 | 0,_,_,_=>none
 | k + 1,x0,x3,x4=>if x4 < (x0.length : Int) then (if 0 ≤ x4 then ((laws_toKnot.f k ((rd_T144 x0 x4).f0) ((rd_T144 x0 x4).f1)).bind fun bt190=>(if x4 < (x3.length : Int) then (laws_toKnotS.l0 k x0 (x3.set (x4 : Int).toNat (⟨bt190.1,bt190.2⟩ : S147)) (wrap64 (x4 + 1))) else (none))) else (none)) else (some x3)
def laws_toKnotS.f (k : Nat) (l0 : List (S144)) : Option ((List (S147))):=if 0 ≤ (l0.length : Int) then (if ((l0.length : Int) : Int).toNat ≤ 8796093022208 then (laws_toKnotS.l0 k l0 (List.replicate ((l0.length : Int) : Int).toNat z147) 0) else (none)) else (none)
theorem laws_toKnotS.mono_l : ∀ k,(∀ y0 y1 y2,LeO (laws_toKnotS.l0 k y0 y1 y2) (laws_toKnotS.l0 (k + 1) y0 y1 y2))
 | 0=>fun _ _ _ r h=>by simp [laws_toKnotS.l0] at h
 | k + 1=>by
  have ih0:=laws_toKnotS.mono_l k;intro y0 y1 y2;unfold laws_toKnotS.l0
  repeat' first
  | (with_reducible exact ih0 _ _ _)
  | (with_reducible exact laws_toKnot.mono _ _ _)
  | (with_reducible exact LeO.refl _)
  | (with_reducible exact LeO.none _)
  | (with_reducible refine LeO.ite ?_ ?_)
  | (with_reducible refine LeO.bind ?_ (fun _=>?_))
  | exact ih0 _ _ _
  | exact laws_toKnot.mono _ _ _
  | exact LeO.none _
  | refine LeO.ite ?_ ?_
  | refine LeO.bind ?_ (fun _=>?_)
theorem laws_toKnotS.mono : ∀ a0 k,LeO (laws_toKnotS.f k a0) (laws_toKnotS.f (k + 1) a0):=by
 intro a0 k;have ih0:=laws_toKnotS.mono_l k;unfold laws_toKnotS.f
 repeat' first
   | (with_reducible exact ih0 _ _ _)
   | (with_reducible exact laws_toKnot.mono _ _ _)
   | (with_reducible exact LeO.refl _)
   | (with_reducible exact LeO.none _)
   | (with_reducible refine LeO.ite ?_ ?_)
   | (with_reducible refine LeO.bind ?_ (fun _=>?_))
   | exact ih0 _ _ _
   | exact laws_toKnot.mono _ _ _
   | exact LeO.none _
   | refine LeO.ite ?_ ?_
   | refine LeO.bind ?_ (fun _=>?_)
set_option maxHeartbeats 8000000 in
set_option maxRecDepth 100000 in
theorem laws_toKnotS.calls (k : Nat) (A0 : Option Addr) (c0 : Nat) (l0 : List (S144)) (r : List (S147)) (w : World) (hr0 : Kd.C k144 w A0 l0.length l0) (hc0 : l0.length ≤ c0) (h : laws_toKnotS.f k l0 = some r) :
  Calls Try.prog 79 #[.slice A0 l0.length c0] w fun e w'=>∃ v0_ : Value,e = .returned (v0_) ∧ Kd.S k147 147 w' w.heap.size (fun _=>True) v0_ r ∧ Below w.heap.size w w':=by
 have hu144:=Try.underlying144;have hu147:=Try.underlying147;have HR0:=zMk hr0;have HC0:=zMk hc0;clear hr0 hc0;have HB:=zMk (Below.refl w.heap.size w);have H : (if 0 ≤ (l0.length : Int) then (if ((l0.length : Int) : Int).toNat ≤ 8796093022208 then (laws_toKnotS.l0 k l0 (List.replicate ((l0.length : Int) : Int).toNat z147) 0) else (none)) else (none)) = some r:=h;clear h
 by_cases c2 : 0 ≤ (l0.length : Int)
 ·rw [if_pos c2] at H;have c2b0:=eq_true c2;have c2b1 : decide (0 ≤ (l0.length : Int)) = true:=decide_eq_true c2;clear c2
  by_cases c3 : ((l0.length : Int) : Int).toNat ≤ 8796093022208
  ·rw [if_pos c3] at H;have c3b0:=eq_true c3;have c3b1 : decide (((l0.length : Int) : Int).toNat ≤ 8796093022208) = true:=decide_eq_true c3;clear c3;obtain ⟨y186,hy186⟩ : ∃ y_ : List (S147),y_ = (List.replicate ((l0.length : Int) : Int).toNat z147):=⟨_,rfl⟩;replace H : (laws_toKnotS.l0 k l0 y186 0) = some r:=by first | (rw [hy186];with_reducible exact H) | (have H2_:=(Option.bind_some _ _).symm.trans H;rw [hy186];with_reducible exact H2_) | (have H2_:=(Option.bind_some _ _).symm.trans H;with_reducible exact H2_) | with_reducible exact H | (rw [hy186];exact H) | exact H
   have Ny186:=zMk hy186;clear hy186;have H':=zMk H;clear H
   go_enter Try.func79,Try.ntmps79
   go_wp2_with (first | ((with_reducible refine gate_dst (N:=7) rfl ?_);refine Kd.S_make k147 _ 147 rfl (N:=7) rfl 32 _ _ rfl (l0.length : Int) rfl rfl Try.underlying32 (.agg #[(.bool false),(.slice none 0 0)]) 32 info147 rfl (by decide) (by omega) z147 (ok:=fun _=>True) (okp:=fun _=>True) (k147_mkM _ _ _ z147 (Kd.R_nil _ _ _ _ _)) (fun _ hk=>hk) trivial (zDe (by first | (with_reducible assumption) | assumption)) (Nat.le_trans (Nat.mul_le_mul_right _ (zDe (by first | (with_reducible assumption) | assumption) : (l0.length : Int).toNat ≤ 8796093022208)) (by omega)) (Below.refl _ _) (Nat.le_refl _) ?_;intro v187 w4 ho5 hb hg_ hnew_;clear hg_ hnew_;(first | rw [← Ny186.out] at ho5 | (simp only [Int.reduceToNat] at ho5;rw [← Ny186.out] at ho5));have n0_:=zMk (Kd.S_lower ho5 (below_size (hs HB)));have n1_:=zMk (below_step (hs HB) hb);clear HB;have HO188:=n0_;have HB:=n1_;clear n0_ n1_;clear hb ho5));go_loopg [4] k (fun kq v4 w'=>∃ (x3_1 : List (S147)) (x4_1 : Int),v4 = .int .i64 x4_1 ∧ Aside0 (laws_toKnotS.l0 kq l0 x3_1 x4_1 = some r) ∧ Aside0 (kq ≤ k) ∧ Aside0 (Kd.S k147 147 w' w.heap.size (fun _=>True) v187 x3_1) ∧ Aside0 (Below w.heap.size w w'));case atStart=>exact ⟨(y186),(0),(by first | rfl | (simp;done) | (simp [*];done)),H',⟨Nat.le_refl _⟩,⟨ss HO188⟩,⟨hs HB⟩⟩
   case round =>
    clear H'
    try clear c2
    try clear c2b0
    try clear c2b1
    try clear p2
    try clear c3
    try clear c3b0
    try clear c3b1
    obtain ⟨x3_1,x4_1,rfl,HA,HK1,HO_3,HB⟩:=hrel;cases gk with
    | zero=>exact absurd HA.out (by simp [laws_toKnotS.l0])
    | succ k1 =>
     have H:=HA.out;clear HA;simp only [laws_toKnotS.l0] at H
     by_cases c6 : x4_1 < (l0.length : Int)
     ·rw [if_pos c6] at H;have c6b0 : decide (x4_1 < (l0.length : Int)) = true:=decide_eq_true c6;clear c6
      by_cases c7 : 0 ≤ x4_1
      ·rw [if_pos c7] at H;have c7b0 : decide (0 ≤ x4_1) = true:=decide_eq_true c7;clear c7;replace H:=Option.bind_eq_some_iff.mp H;obtain ⟨⟨t190,t191⟩,A80,H⟩:=H;replace H : (if x4_1 < (x3_1.length : Int) then (laws_toKnotS.l0 k1 l0 (x3_1.set (x4_1 : Int).toNat (⟨t190,t191⟩ : S147)) (wrap64 (x4_1 + 1))) else (none)) = some r:=H;have A8:=zMk A80;clear A80
       by_cases c9 : x4_1 < (x3_1.length : Int)
       ·rw [if_pos c9] at H;have c9b0 : decide (x4_1 < (x3_1.length : Int)) = true:=decide_eq_true c9;clear c9;obtain ⟨y194,hy194⟩ : ∃ y_ : List (S147),y_ = (x3_1.set (x4_1 : Int).toNat (⟨t190,t191⟩ : S147)):=⟨_,rfl⟩;replace H : (laws_toKnotS.l0 k1 l0 y194 (wrap64 (x4_1 + 1))) = some r:=by first | (rw [hy194];with_reducible exact H) | (have H2_:=(Option.bind_some _ _).symm.trans H;rw [hy194];with_reducible exact H2_) | (have H2_:=(Option.bind_some _ _).symm.trans H;with_reducible exact H2_) | with_reducible exact H | (rw [hy194];exact H) | exact H
        have Ny194:=zMk hy194;clear hy194;have H':=zMk H;clear H;have p189 : 0 ≤ (x4_1 : Int):=zDe (by first | (with_reducible assumption) | assumption);have q189 : x4_1 < (l0.length : Int):=zDe (by first | (with_reducible assumption) | assumption);obtain ⟨ad189,A189_1,c189_1,e189,hx189_0,hx189_1,hl189_1,hi189_1⟩:=at_T144 HR0.out x4_1 p189 q189;cases e189;replace hx189_0:=(HB.out.cell (zBl w _ hx189_0)).trans hx189_0;replace hx189_1:=(HB.out.cell (zBl w _ hx189_1)).trans hx189_1;have HR189_1:=zMk hi189_1;have HC189_1:=zMk hl189_1;clear hi189_1 hl189_1;replace p189:=eq_true p189;replace q189:=eq_true q189;go_wp2_with (first | ((with_reducible refine gate_callee (f:=102) rfl ?_);refine goesL_ (some 20) rfl rfl Try.func102 (by kernel_rfl) rfl #[.agg #[.bool ((rd_T144 l0 x4_1).f0),.slice A189_1 ((rd_T144 l0 x4_1).f1).length c189_1]] rfl (by (try simp only [List.map_toArray,List.map_cons,List.map_nil]);first | done | rfl | (simp only [List.length_drop,List.length_take];rfl)) ?_;(with_reducible refine (laws_toKnot.calls k1 ((rd_T144 l0 x4_1).f0) _ _ ((rd_T144 l0 x4_1).f1) t190 t191 _ ?side1 ?side2 A8.out).mono ?_);(case side1=>repeat (first | exact (Kd.C_below HR189_1.out HB.out) | (with_reducible refine Kd.C_alloc ?_ _) | (with_reducible refine Kd.C_drewN ?_ _) | (with_reducible refine Kd.C_drew ?_)));(case side2=>exact HC189_1.out);rintro e w11 ⟨v192,rfl,ho0,hb⟩;refine ⟨_,rfl,?_⟩;have n0_:=zMk (Kd.S_elder' (ss HO_3) (Kd.R_base ho0) hb);have n1_:=zMk (Kd.R_lower ho0 (below_size (hs HB)));have n2_:=zMk (below_step (hs HB) hb);clear HO_3;clear HB;have HO_3:=n0_;have HO193:=n1_;have HB:=n2_;clear n0_ n1_ n2_;(try clear hb);(try clear hb2);(try clear hk);(try clear hi);(try clear ho0);have p10 : 0 ≤ (x4_1 : Int):=zDe (by first | (with_reducible assumption) | assumption);have q10 : (x4_1 : Int) < ((x3_1.length : Int) : Int):=zDe (by first | (with_reducible assumption) | assumption);obtain ⟨go10,co10,eo10,gb10,gl10,cl10,HG10⟩:=Kd.S_form HO_3.out (by omega);(first | cases eo10 | (injection eo10 with ea_ en_ ec_;(first | subst ea_ | (injection ea_ with ea_;subst ea_));subst ec_;clear en_));have GB10:=zMk gb10;have GG10:=zMk HG10;clear gb10 gl10 HG10;obtain ⟨_,ce10,hcl10,hM10,hcc10,hfr10,_,_⟩:=Kd.S_elem HO_3.out z147 (x4_1 : Int) p10 q10;obtain ⟨ve10_1,rfl,ge10_1⟩:=k147_openM hM10;have hx10_0 : w11.cell? ⟨go10,(x4_1 : Int).toNat * 2,none⟩ = some (.bool ((rd_T147 x3_1 x4_1).f0)):=hcc10 0 _ rfl;have hx10_1 : w11.cell? ⟨go10,(x4_1 : Int).toNat * 2 + 1,none⟩ = some (ve10_1):=hcc10 1 _ rfl;have hf10_0 : w11.frozen? ⟨go10,(x4_1 : Int).toNat * 2,none⟩ = false:=hfr10 0;have hf10_1 : w11.frozen? ⟨go10,(x4_1 : Int).toNat * 2 + 1,none⟩ = false:=hfr10 1;clear hcl10 hcc10 hfr10 hM10;replace p10:=eq_true p10;replace q10:=eq_true q10;have n_:=zMk (Kd.S_mono (ok':=(fun k_=>some k_ ≠ (v192 : Value).ownBlock)) HO_3.out (fun k_ hk=>hk.2));clear HO_3;have HO_3:=n_;clear n_;have HX12:=zMk (show Kd.S k147 147 w11 w.heap.size (fun k_=>((fun _=>True)) k_ ∧ ¬ ((fun k_=>some k_ = (v192 : Value).ownBlock)) k_) (.slice (some ⟨go10,0,none⟩) x3_1.length co10) x3_1 from (by (with_reducible repeat (first | apply Kd.S_alloc | apply Kd.S_drewN | apply Kd.S_drew));exact Kd.S_mono HO_3.out (fun k_ hk=>⟨trivial,fun e_=>hk e_⟩)));obtain ⟨oki12,ce12,hcl12,hM12,hcc12,hfr12,hoki12,hH12⟩:=Kd.S_elem HX12.out z147 (x4_1 : Int) (zDe (by first | (with_reducible assumption) | assumption)) (by have h_ : (x4_1 : Int) < ((x3_1.length : Int) : Int):=zDe (by first | (with_reducible assumption) | assumption);first | exact h_ | (have e_:=(Kd.S_reads' HO_3.out).1;omega) | simpa using h_);obtain ⟨ve12_1,rfl,ge12_1⟩:=k147_openM hM12;have HP12:=Kd.S_seg hH12 (zDe (by first | (with_reducible assumption) | assumption)) (by have h_ : (x4_1 : Int) < ((x3_1.length : Int) : Int):=zDe (by first | (with_reducible assumption) | assumption);first | exact h_ | (have e_:=(Kd.S_reads' HO_3.out).1;omega) | simpa using h_) (seg:=[.bool t190,v192]) (j:=0) (show 2 ≤ 2 from by decide) (x':=(⟨t190,t191⟩ : S147)) (k147_mkM _ _ _ (⟨t190,t191⟩ : S147) (Kd.R_mono (Kd.R_tight rfl (Kd.R_mono (ok':=fun k_=>((fun _=>True)) k_ ∧ k_ ≠ go10) (Kd.R_apart' (HO193.out) (Kd.S_typed HO_3.out) (by decide)) (fun k_ hk=>⟨trivial,fun e_=>(hk.2) (by rw [e_];rfl)⟩))) (fun _ h_=>Or.inr (h_)))) (fun _ hk=>hk) (fun k_ hk_=>((Kd.R_mono (ok':=fun k_=>((fun _=>True)) k_ ∧ k_ ≠ go10) (Kd.R_apart' (HO193.out) (Kd.S_typed HO_3.out) (by decide)) (fun k_ hk=>⟨trivial,fun e_=>(hk.2) (by rw [e_];rfl)⟩))).1 k_ hk_.symm);have hx12_0:=hcc12 0 _ rfl;(try simp only [show (k147).sz = 2 from rfl,Nat.mul_one,Nat.add_zero] at hx12_0);have hf12_0:=hfr12 0;(try simp only [show (k147).sz = 2 from rfl,Nat.mul_one,Nat.add_zero] at hf12_0);have hx12_1:=hcc12 1 _ rfl;(try simp only [show (k147).sz = 2 from rfl,Nat.mul_one,Nat.add_zero] at hx12_1);have hf12_1:=hfr12 1;(try simp only [show (k147).sz = 2 from rfl,Nat.mul_one,Nat.add_zero] at hf12_1);clear hcl12 hcc12 hfr12 hM12 hoki12 hH12;have hst12_1:=fun (W_ : World) (a_ : Addr) (m_ : Mode)=>run_store Try.prog W_ a_ v192 m_ (Kd.R_val HO193.out).2) | ((with_reducible refine gate_store (t:=147) (p:=21) rfl ?_);refine store_event (t:=147) (p:=21) (v:=?vo_w13) (w1:=((w11.setCell ⟨go10,(x4_1 : Int).toNat * 2,none⟩ (.bool t190)).setCell ⟨go10,(x4_1 : Int).toNat * 2 + 1,none⟩ (v192))) ?hg ?ho ?hn ?hr ?_;(case ho=>rfl);(case hg=>rfl);(case hn=>rfl);(case hr=>first | (go_simp;done) | (go_simp;rfl));intro w13 hw;have hg : w11.grownBy w13 (some go10):=(by rw [hw];exact HP12.2);have hp_ : Kd.S k147 147 w13 w.heap.size (fun _=>True) (.slice (some ⟨go10,0,none⟩) x3_1.length co10) y194:=(by rw [hw,Ny194.out];exact HP12.1);clear HP12;have n0_:=zMk (hp_);have n1_:=zMk ((by rw [hw];exact below_set (below_set (HB.out) GB10.out) GB10.out : Below w.heap.size w w13));clear HO_3;clear HB;clear HO193;have HO_3:=n0_;have HB:=n1_;clear n0_ n1_;clear hg hw hp_ hst12_1));go_roundg k1;case measure=>have:=HK1.out;omega
        case rel=>exact ⟨(y194),(wrap64 (x4_1 + 1)),(by first | rfl | (simp;done) | (simp [*];done)),H',⟨by have:=HK1.out;omega⟩,⟨ss HO_3⟩,⟨hs HB⟩⟩
       rw [if_neg c9] at H;exact absurd H (by simp)
      rw [if_neg c7] at H;exact absurd H (by simp)
     rw [if_neg c6] at H;have c6b0 : decide (x4_1 < (l0.length : Int)) = false:=decide_eq_false c6;clear c6;obtain rfl:=Option.some.inj H
     go_wp2
     go_ret
     exact ⟨_,by first | rfl | (simp [errW_none,errW_some] <;> rfl) | (simp [*,errW_none,errW_some] <;> rfl),ss HO_3,hs HB⟩
  rw [if_neg c3] at H;exact absurd H (by simp)
 rw [if_neg c2] at H;exact absurd H (by simp)
def laws_toArena.f (k : Nat) (l0_0 : List (S144)) : Option ((List (S147))):=(laws_toKnotS.f k l0_0).bind fun t198=>(some t198)
theorem laws_toArena.mono : ∀ a0 k,LeO (laws_toArena.f k a0) (laws_toArena.f (k + 1) a0):=by
 intro a0 k;unfold laws_toArena.f
 repeat' first
   | (with_reducible exact laws_toKnotS.mono _ _)
   | (with_reducible exact LeO.refl _)
   | (with_reducible exact LeO.none _)
   | (with_reducible refine LeO.ite ?_ ?_)
   | (with_reducible refine LeO.bind ?_ (fun _=>?_))
   | exact laws_toKnotS.mono _ _
   | exact LeO.none _
   | refine LeO.ite ?_ ?_
   | refine LeO.bind ?_ (fun _=>?_)
set_option maxHeartbeats 8000000 in
set_option maxRecDepth 100000 in
theorem laws_toArena.calls (k : Nat) (A0_0 : Option Addr) (c0_0 : Nat) (l0_0 : List (S144)) (r : List (S147)) (w : World) (hr0_0 : Kd.C k144 w A0_0 l0_0.length l0_0) (hc0_0 : l0_0.length ≤ c0_0) (h : laws_toArena.f k l0_0 = some r) :
  Calls Try.prog 47 #[.agg #[.slice A0_0 l0_0.length c0_0]] w fun e w'=>∃ v0_ : Value,e = .returned (.agg #[v0_]) ∧ Kd.S k147 147 w' w.heap.size (fun _=>True) v0_ r ∧ Below w.heap.size w w':=by
 have hu25:=Try.underlying25;have hu34:=Try.underlying34;have HR0_0:=zMk hr0_0;have HC0_0:=zMk hc0_0;clear hr0_0 hc0_0;have HB:=zMk (Below.refl w.heap.size w);have H : ((laws_toKnotS.f k l0_0).bind fun t198=>(some t198)) = some r:=h;clear h;replace H:=Option.bind_eq_some_iff.mp H;obtain ⟨t198,A20,H⟩:=H;replace H : (some t198) = some r:=H;have A2:=zMk A20;clear A20;obtain rfl:=Option.some.inj H
 go_enter Try.func47,Try.ntmps47
 go_wp2_with (first | ((with_reducible refine gate_dst (N:=1) rfl ?_);refine box_event ?hg (N:=1) ?hd (cs:=#[.slice A0_0 l0_0.length c0_0]) (t:=25) ?hr ?_;(case hd=>rfl);(case hg=>rfl);(case hr=>first | (go_simp;done) | (go_simp;rfl));intro gb195 hg w3 hbox hb;have n0_:=zMk (below_step (hs HB) hb);have n1_:=zMk (hbox);have n2_:=zMk ((by rw [hg];exact (below_size (hs HB)) : w.heap.size ≤ gb195));have n3_:=zMk ((by rw [hg];exact (below_size (hs HB)) : w.heap.size ≤ gb195));clear HB;have HB:=n0_;have BK195:=n1_;have GW195:=n2_;have GE195:=n3_;clear n0_ n1_ n2_ n3_;clear hb hbox hg) | ((with_reducible refine gate_dst (N:=2) rfl ?_);refine box_event ?hg (N:=2) ?hd (cs:=#[.slice none 0 0]) (t:=34) ?hr ?_;(case hd=>rfl);(case hg=>rfl);(case hr=>first | (go_simp;done) | (go_simp;rfl));intro gb196 hg w4 hbox hb;have n0_:=zMk (blk_below (g:=gb195) (o:=.cells #[.slice A0_0 l0_0.length c0_0] 25 (0,0)) (bs BK195) hb);have n1_:=zMk (below_step (hs1 HB GE195) hb);have n2_:=zMk (hbox);have n3_:=zMk ((by rw [hg];exact (below_size (hs1 HB GE195)) : w.heap.size ≤ gb196));have n4_:=zMk ((by rw [hg];exact (below_size (hs1 HB GE195)) : w.heap.size ≤ gb196));have n5_:=zMk ((by rw [hg];exact Nat.ne_of_lt (blk_lt (g:=gb195) (o:=.cells #[.slice A0_0 l0_0.length c0_0] 25 (0,0)) (bs BK195)) : gb195 ≠ gb196));have n6_:=zMk ((by rw [hg];exact Nat.ne_of_gt (blk_lt (g:=gb195) (o:=.cells #[.slice A0_0 l0_0.length c0_0] 25 (0,0)) (bs BK195)) : gb196 ≠ gb195));clear BK195;clear HB;have BK195:=n0_;have HB:=n1_;have BK196:=n2_;have GW196:=n3_;have GE196:=n4_;have NB195_196:=n5_;have NB196_195:=n6_;clear n0_ n1_ n2_ n3_ n4_ n5_ n6_;clear hb hbox hg) | ((with_reducible refine gate_dst (N:=3) rfl ?_);refine box_event ?hg (N:=3) ?hd (cs:=#[.slice none 0 0]) (t:=34) ?hr ?_;(case hd=>rfl);(case hg=>rfl);(case hr=>first | (go_simp;done) | (go_simp;rfl));intro gb197 hg w5 hbox hb;have n0_:=zMk (blk_below (g:=gb195) (o:=.cells #[.slice A0_0 l0_0.length c0_0] 25 (0,0)) (bs BK195) hb);have n1_:=zMk (blk_below (g:=gb196) (o:=.cells #[.slice none 0 0] 34 (0,0)) (bs BK196) hb);have n2_:=zMk (below_step (hs2 HB GE195 GE196) hb);have n3_:=zMk (hbox);have n4_:=zMk ((by rw [hg];exact (below_size (hs2 HB GE195 GE196)) : w.heap.size ≤ gb197));have n5_:=zMk ((by rw [hg];exact (below_size (hs2 HB GE195 GE196)) : w.heap.size ≤ gb197));have n6_:=zMk ((by rw [hg];exact Nat.ne_of_lt (blk_lt (g:=gb195) (o:=.cells #[.slice A0_0 l0_0.length c0_0] 25 (0,0)) (bs BK195)) : gb195 ≠ gb197));have n7_:=zMk ((by rw [hg];exact Nat.ne_of_gt (blk_lt (g:=gb195) (o:=.cells #[.slice A0_0 l0_0.length c0_0] 25 (0,0)) (bs BK195)) : gb197 ≠ gb195));have n8_:=zMk ((by rw [hg];exact Nat.ne_of_lt (blk_lt (g:=gb196) (o:=.cells #[.slice none 0 0] 34 (0,0)) (bs BK196)) : gb196 ≠ gb197));have n9_:=zMk ((by rw [hg];exact Nat.ne_of_gt (blk_lt (g:=gb196) (o:=.cells #[.slice none 0 0] 34 (0,0)) (bs BK196)) : gb197 ≠ gb196));clear BK195;clear BK196;clear HB;have BK195:=n0_;have BK196:=n1_;have HB:=n2_;have BK197:=n3_;have GW197:=n4_;have GE197:=n5_;have NB195_197:=n6_;have NB197_195:=n7_;have NB196_197:=n8_;have NB197_196:=n9_;clear n0_ n1_ n2_ n3_ n4_ n5_ n6_ n7_ n8_ n9_;clear hb hbox hg;have hnb6:=NB195_196.out;have hnc6:=NB196_195.out;have hnb7:=NB195_197.out;have hnc7:=NB197_195.out;have hcz8_0 : w5.cell? ⟨gb195,0,none⟩ = some (.slice A0_0 l0_0.length c0_0):=(zCl BK195.out 0).trans rfl;have hfz8_0:=zFr BK195.out 0) | ((with_reducible refine gate_callee (f:=79) rfl ?_);refine goesL_ (some 6) rfl rfl Try.func79 (by kernel_rfl) rfl #[.slice A0_0 l0_0.length c0_0] rfl (by (try simp only [List.map_toArray,List.map_cons,List.map_nil]);first | done | rfl | (simp only [List.length_drop,List.length_take];rfl)) ?_;(with_reducible refine (laws_toKnotS.calls k _ _ l0_0 t198 _ ?side1 ?side2 A2.out).mono ?_);(case side1=>repeat (first | exact (Kd.C_below HR0_0.out HB.out) | (with_reducible refine Kd.C_alloc ?_ _) | (with_reducible refine Kd.C_drewN ?_ _) | (with_reducible refine Kd.C_drew ?_)));(case side2=>exact HC0_0.out);rintro e w9 ⟨v199,rfl,ho0,hb⟩;refine ⟨_,rfl,?_⟩;have n0_:=zMk (Kd.S_lower ho0 (below_size (hs3 HB GE195 GE196 GE197)));have n1_:=zMk (blk_below (g:=gb195) (o:=.cells #[.slice A0_0 l0_0.length c0_0] 25 (0,0)) (bs BK195) hb);have n2_:=zMk (blk_below (g:=gb196) (o:=.cells #[.slice none 0 0] 34 (0,0)) (bs BK196) hb);have n3_:=zMk (blk_below (g:=gb197) (o:=.cells #[.slice none 0 0] 34 (0,0)) (bs BK197) hb);have n4_:=zMk (below_step (hs3 HB GE195 GE196 GE197) hb);clear BK195;clear BK196;clear BK197;clear HB;have HO200:=n0_;have BK195:=n1_;have BK196:=n2_;have BK197:=n3_;have HB:=n4_;clear n0_ n1_ n2_ n3_ n4_;(try clear hb);(try clear hb2);(try clear hk);(try clear hi);(try clear ho0);obtain ⟨Ao10,co10,eo10⟩:=Kd.S_slice HO200.out;subst eo10;have hnb11:=NB197_196.out;have hnc11:=NB196_197.out;have hcz12_0 : w9.cell? ⟨gb197,0,none⟩ = some (.slice none 0 0):=(zCl BK197.out 0).trans rfl;have hfz12_0:=zFr BK197.out 0;have hcz13_0 : w9.cell? ⟨gb196,0,none⟩ = some (.slice none 0 0):=(zCl BK196.out 0).trans rfl;have hfz13_0:=zFr BK196.out 0));refine bodyPost_ret (results_cell_row rfl _ _ gb196 34 #[.slice Ao10 t198.length co10] (0,0) _ rfl (by (with_reducible repeat (first | refine blk_drewN ?_ _ | refine blk_drew ?_ | refine blk_alloc ?_ _));refine blk_put (cs:=#[.slice none 0 0]) ?_ 0 _ rfl;(with_reducible repeat (first | refine blk_drewN ?_ _ | refine blk_drew ?_ | refine blk_alloc ?_ _));refine blk_far ?_ NB196_197.out _;(with_reducible repeat (first | refine blk_drewN ?_ _ | refine blk_drew ?_ | refine blk_alloc ?_ _));exact BK196.out) Try.underlying34 rfl (by kernel_rfl)) rfl ?_;exact ⟨_,by first | rfl | (simp [errW_none,errW_some] <;> rfl) | (simp [*,errW_none,errW_some] <;> rfl),by (with_reducible repeat (first | apply Kd.S_alloc | apply Kd.S_drewN | apply Kd.S_drew));exact Kd.S_mono (Kd.S_far (p:=⟨gb196,0,none⟩) (Kd.S_far (p:=⟨gb197,0,none⟩) (Kd.S_types (Kd.S_types HO200.out BK197.out (by decide)) BK196.out (by decide)) (fun _ hk=>hk.1.2) (.slice Ao10 t198.length co10)) (fun _ hk=>hk.2) (.slice Ao10 t198.length co10)) (fun _ hk=>trivial),hs3 HB GE195 GE196 GE197⟩
end Go.Proofs.Ytklkhnomnanpoaa.PK
