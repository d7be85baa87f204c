/- FnExactCutSteps: functions of the translation as Lean functions with what their calls come to, plain lemmas on them, and, at the end, the row. Parts of one proof, merged by a program of this session; each part's own sentence stands at its head. -/
import Derived.Test.YtklkhnomnanpoaaProg
import Derived.Below
import Derived.Deep.Draws
import Derived.Deep.AppendLies
import Derived.Maps.AppendAt
import Derived.OwnWalk
import Derived.Laws.BytesArg
import Derived.Laws.MakeOwn
import Derived.Laws.OwnMore
import Derived.Deep.OwnRows
import Derived.Tactics
import Derived.Lib.ConvBytes
import Derived.Laws.Slices
import Derived.WalkKit
import Derived.KernelRfl
import Derived.RowKit3
import Derived.Deep.LoopGhost
import Derived.Deep.QuietTactic
import Derived.BigQuiet
import Derived.WideLaws
import Derived.Deep.DeepCutAuto
import Derived.Deep.CutBlock
import Derived.Deep.RegionHeld3
import Derived.Laws.Rows
import Derived.Lib.AppendStr
import Derived.ArgAppend
import Derived.Laws.IdiomCopy
import Derived.OrdersHeld
import Derived.Laws.BitsLemmas
import Derived.RowKit
import Derived.Test.YtklkhnomnanpoaaMFnExactCutStepswa
set_option linter.unusedSimpArgs false
set_option linter.unusedVariables false
/- Rows whose elements' inner rows lie apart: a field of an element stored, and an element's own row written by a call. -/
namespace Go.Proofs.YtklkhnomnanpoaaW.PrintWords
open Go.RowKit
namespace Kd
section
variable {α : Type} {d : Kd α} {e g n cap : Nat} {w W w' : World} {base : Nat} {ok oki : Nat → Prop} {v : Value} {xs : List α} {i : Int} {c : List Value}
/-- One field of element i is stored. -/
theorem S_field (h : S d e W base ok (.slice (some ⟨g, 0, none⟩) n cap) xs) (z : α) (i : Int) (h0 : 0 ≤ i) (h1 : i < n) (j : Nat) (u : Value) (hj : j + [u].length ≤ d.sz) {x' : α}
    (hM : ∀ (okp : Nat → Prop) (c : List Value), d.M W base okp (xs.getD i.toNat z) c → d.M W base okp x' (c.take j ++ [u] ++ c.drop (j + [u].length))) :
    S d e (W.setCell ⟨g, i.toNat * d.sz + j, none⟩ u) base ok (.slice (some ⟨g, 0, none⟩) n cap) (xs.set i.toNat x') ∧ W.grownBy (W.setCell ⟨g, i.toNat * d.sz + j, none⟩ u) (some g) := by
  have hS : S d e W base (fun k => ok k ∧ ¬ (fun _ => False) k) (.slice (some ⟨g, 0, none⟩) n cap) xs := S_mono h (fun k hk => ⟨hk, fun h => h⟩)
  obtain ⟨oki, c, _, hMc, _, _, _, hH⟩ := S_elem hS z i h0 h1
  have r := S_seg (seg := [u]) (j := j) hH h0 h1 hj (hM oki c hMc) (fun _ hk => .inl hk) (fun _ hk => hk.elim)
  exact r
/-- What element i leads to was written by a call that keeps all else. -/
theorem S_called (hH : H d e W base ok v xs i oki c) (hk : Kept W w' oki) {x' : α} (hM : d.M w' base (fun k => oki k ∨ W.heap.size ≤ k) x' c) (hok : ∀ k, W.heap.size ≤ k → ok k) : S d e w' base ok v (xs.set i.toNat x') :=
  H_back (H_kept (H_widen hH) hk (fun _ _ hn hS => hn (.inl hS))) hM (fun k hk => hk.imp id (fun h => ⟨hok k h, h⟩))
/-- Cells of element i are stored; what they lead to is new to the row. -/
theorem S_put (h : S d e W base ok (.slice (some ⟨g, 0, none⟩) n cap) xs) (z : α) (i : Int) (h0 : 0 ≤ i) (h1 : i < n) (j : Nat) (seg : List Value) (hj : j + seg.length ≤ d.sz) {okv : Nat → Prop} (hap : ∀ k, ok k → okv k → False) (hg : ∀ k, okv k → k ≠ g) {x' : α}
    (hM : ∀ (okp : Nat → Prop) (c : List Value), d.M W base okp (xs.getD i.toNat z) c → d.M W base (fun k => okp k ∨ okv k) x' (c.take j ++ seg ++ c.drop (j + seg.length))) :
    S d e (W.setCells g (i.toNat * d.sz + j) seg) base (fun k => ok k ∨ okv k) (.slice (some ⟨g, 0, none⟩) n cap) (xs.set i.toNat x') ∧ W.grownBy (W.setCells g (i.toNat * d.sz + j) seg) (some g) := by
  have hS : S d e W base (fun k => (ok k ∨ okv k) ∧ ¬ okv k) (.slice (some ⟨g, 0, none⟩) n cap) xs := S_mono h (fun k hk => ⟨.inl hk, fun h2 => hap k hk h2⟩)
  obtain ⟨oki, c, _, hMc, _, _, _, hH⟩ := S_elem hS z i h0 h1
  exact S_seg (okg := okv) hH h0 h1 hj (hM oki c hMc) (fun _ hk => hk) (fun k hk => ⟨.inr hk, hg k hk⟩)
/-- Two rows that came at once, of types apart: their blocks are apart. -/
theorem two_apart {β : Type} {d' : Kd β} {e' : Nat} {base' : Nat} {ok' : Nat → Prop} {v' : Value} {ys : List β} (h : d.R e w base ok v xs) (h' : S d' e' w base' ok' v' ys) (ht : ∀ q, q ∈ e :: d.E → ∀ q', q' ∈ e' :: d'.E → q ≠ q') :
    ∃ TA TB : Nat → Prop, (∀ k, TA k → TB k → False) ∧ d.R e w base (fun k => (base ≤ k ∧ k < w.heap.size) ∧ TA k) v xs ∧ S d' e' w base' (fun k => (base' ≤ k ∧ k < w.heap.size) ∧ TB k) v' ys := by
  refine ⟨fun k => ∃ q, q ∈ e :: d.E ∧ ∃ cells, w.heap[k]? = some (.cells cells q (0, 0)), fun k => ∃ q, q ∈ e' :: d'.E ∧ ∃ cells, w.heap[k]? = some (.cells cells q (0, 0)), ?_, R_mono (R_bound h) (fun k hk => ⟨⟨hk.2.1, hk.2.2.1⟩, hk.2.2.2⟩), S_mono (S_bound h') (fun k hk => ⟨⟨hk.2.1, hk.2.2.1⟩, hk.2.2.2⟩)⟩
  rintro k ⟨q, hq, c, hc⟩ ⟨q', hq', c', hc'⟩
  rw [hc] at hc'
  injection hc' with hc'
  injection hc' with h1 h2 h3
  exact ht q hq q' hq' h2
/-- Two rows that came at once, the second one's block none of the first one's. -/
theorem two_told {β : Type} {d' : Kd β} {e' : Nat} {base' : Nat} {ok' : Nat → Prop} {v' : Value} {ys : List β} (h : S d e w base (fun k => some k ≠ v'.ownBlock) v xs) (h' : d'.R e' w base' ok' v' ys) (hE : d'.E = []) :
    ∃ TA TB : Nat → Prop, (∀ k, TA k → TB k → False) ∧ S d e w base (fun k => (base ≤ k ∧ k < w.heap.size) ∧ TA k) v xs ∧ d'.R e' w base' (fun k => (base' ≤ k ∧ k < w.heap.size) ∧ TB k) v' ys :=
  ⟨fun k => some k ≠ v'.ownBlock, fun k => some k = v'.ownBlock, fun k h1 h2 => h1 h2, S_mono (S_bound h) (fun k hk => ⟨⟨hk.2.1, hk.2.2.1⟩, hk.1⟩), R_mono (R_bound (R_tight hE h')) (fun k hk => ⟨⟨hk.2.1, hk.2.2.1⟩, hk.1⟩)⟩
end
section
variable {P : Program} {ops : Array Oper} {rest : List Oper} {o : Oper} {a : Act} {Q : Exit → Act → World → Prop} {α : Type}
/-- A literal of two elements that lead to rows apart. -/
theorem S_lit2 (d : Kd α) {w0 W : World} (base e : Nat) (hgd : o.guard = none) {N : Tmp} (hd : o.dst = some N) {x y : α} {cx cy : List Value} {okx oky : Nat → Prop}
    (hrun : (execOp a.eval o).run P W = .ok (.value (.slice (some ⟨W.heap.size, 0, none⟩) 2 2)) (W.alloc (.cells (cx ++ cy).toArray e)))
    (hx : d.M W base okx x cx) (hy : d.M W base oky y cy) (hap : ∀ k, okx k → oky k → False) (HB : Below base w0 W) (hbase : base ≤ W.heap.size)
    (h : ∀ v1 w1, S d e w1 base (fun k => (okx k ∨ oky k) ∨ W.heap.size ≤ k) v1 [x, y] → Below base w0 w1 → Below W.heap.size W w1 → wpList P ops Q rest (a.put o.dst v1) w1) : wpList P ops Q (o :: rest) a W := by
  have lx : cx.length = d.sz := d.K_len (d.K_of_M hx)
  have ly : cy.length = d.sz := d.K_len (d.K_of_M hy)
  refine S_lits d base e hgd hd (xs := [x, y]) (inner := cx ++ cy) (ok := fun k => (okx k ∨ oky k) ∨ W.heap.size ≤ k) (fun j k => (j = 0 ∧ okx k) ∨ (j = 1 ∧ oky k)) hrun (by rw [List.length_append, lx, ly]; simp; omega) ?_ ?_ ?_ (.inr (Nat.le_refl _)) HB hbase (by simp) (fun v1 w1 hS hb hg _ => h v1 w1 hS hb ⟨hg.os, hg.tape, hg.output, hg.size, fun i hi => hg.block i hi (by simp)⟩)
  · intro j z hz
    rcases j with _ | _ | j
    · obtain rfl : x = z := Option.some.inj hz
      rw [Nat.zero_mul, List.drop_zero, ← lx, List.take_left]
      exact d.M_mono (fun k hk => .inl ⟨rfl, hk⟩) hx
    · obtain rfl : y = z := Option.some.inj hz
      rw [Nat.zero_add, Nat.one_mul, ← lx, List.drop_left, lx, ← ly, List.take_length]
      exact d.M_mono (fun k hk => .inr ⟨rfl, hk⟩) hy
    · simp at hz
  · rintro i j k (⟨rfl, h1⟩ | ⟨rfl, h1⟩) (⟨rfl, h2⟩ | ⟨rfl, h2⟩)
    · rfl
    · exact (hap k h1 h2).elim
    · exact (hap k h2 h1).elim
    · rfl
  · rintro j k (⟨_, h1⟩ | ⟨_, h1⟩)
    · exact .inl (.inl h1)
    · exact .inl (.inr h1)
open Classical in
/-- append(v, x...), behind 'at_builtin': x's elements lead to rows that lie apart, none of them v's. -/
theorem S_append_rows (d : Kd α) {w0 W : World} (base : Nat) (hgd : o.guard = none) (s x : Operand) (t e : TypeId) (z : Value) (bytes : Nat)
    (ho : o.op = .call { callee := .builtin .append, args := #[s, x], argTypes := #[t, t] })
    (ht : P.underlying t = some (.slice e)) (hinfo : (P.info? e).map (fun i => (i.zero, i.size, i.bytes)) = some (some z, d.sz, bytes)) (hz : z.cells.size = d.sz) (hs0 : 0 < d.sz) (hb0 : 0 < bytes)
    (v : Value) (xs ys : List α) (A : Option Addr) (m c : Nat) (ok okv oku : Nat → Prop) (hs : a.eval s = v) (hx : a.eval x = .slice A m c)
    (HO : S d e W base okv v xs) (H2 : S d e W base oku (.slice A m c) ys) (hap : ∀ k, okv k → oku k → False) (h1 : ∀ k, okv k → ok k) (h2 : ∀ k, oku k → ok k) (hfresh : ∀ k, W.heap.size ≤ k → ok k)
    (HB : Below base w0 W) (hbase : base ≤ W.heap.size) (hl : (xs.length + m) * bytes ≤ 140737488355328)
    (h : ∀ v1 w1, S d e w1 base ok v1 (xs ++ ys) → Below base w0 w1 → W.grownBy w1 v.ownBlock → (v1.ownBlock = v.ownBlock ∨ ∃ b, v1.ownBlock = some b ∧ W.heap.size ≤ b) → wpList P ops Q rest (a.put o.dst v1) w1) :
    wpList P ops Q (o :: rest) a W := by
  obtain ⟨f1, R1⟩ := HO
  obtain ⟨f2, R2⟩ := H2
  have R1' : (tag (fun k => if oku k then f2 k + xs.length else f1 k) d).R e W base okv v xs.zipIdx := R_tag R1 (fun k hk _ => if_neg (fun h => hap k hk h))
  have hm := (R_reads' R2).1
  rw [List.length_zipIdx] at hm
  obtain ⟨_, inner, ho2, hr2⟩ := R2
  obtain ⟨A', c', he, hR2⟩ := own_reads_row ho2 hr2 rfl
  injection he with ea en ec
  subst ea
  have HR : ReadsRow (fun p cs => (tag (fun k => if oku k then f2 k + xs.length else f1 k) d).M W base oku p cs) (tag (fun k => if oku k then f2 k + xs.length else f1 k) d).sz W A m (ys.zipIdx xs.length) := by
    refine ⟨by rw [List.length_zipIdx]; exact hm.symm, by have := hR2.2.1; omega, fun hn => ?_⟩
    obtain ⟨ad, e2, hc⟩ := hR2.2.2 (by omega)
    refine ⟨ad, e2, fun j p hj => ?_⟩
    rw [List.getElem?_zipIdx] at hj
    obtain ⟨y, hy, rfl⟩ := Option.map_eq_some_iff.1 hj
    obtain ⟨cs, hl2, hM, hcell⟩ := hc j (y, j) (zip_at hy)
    refine ⟨cs, hl2, ?_, hcell⟩
    refine d.M_mono (fun k hk => ⟨hk.1.1, ?_⟩) hM
    show (if oku k then f2 k + xs.length else f1 k) = xs.length + j
    have h3 : f2 k = j := hk.2
    rw [if_pos hk.1.1, h3, Nat.add_comm]
  refine R_append_rows (tag (fun k => if oku k then f2 k + xs.length else f1 k) d) base hgd s x t e z bytes ho ht hinfo hz hs0 hb0 v xs.zipIdx (ys.zipIdx xs.length) A m c ok oku hs hx (R_mono R1' h1) HR (fun _ _ h => h) (fun k hk => ⟨h2 k hk, fun he => hap k (R1.1 k he.symm) hk⟩) hfresh HB hbase (by rw [List.length_zipIdx]; exact hl) ?_
  intro v1 w1 hr
  rw [show xs.zipIdx ++ ys.zipIdx xs.length = (xs ++ ys).zipIdx from by rw [List.zipIdx_append]; simp] at hr
  exact h v1 w1 ⟨_, hr⟩
end
end Kd
end Go.Proofs.YtklkhnomnanpoaaW.PrintWords

namespace Go.Proofs.Ytklkhnomnanpoaa.PK
open Go.RowKit Go.Proofs.YtklkhnomnanpoaaW.PrintWords Go.Proofs.YtklkhnomnanpoaaW.PrintLast Go.Proofs.YtklkhnomnanpoaaW.PrintMore
attribute [local go_sem] max2_int min2_int max_two min_two max_three min_three max_four min_four
def errW : Option Int → Value
 | none=>.nilIface
 | some c=>.iface 0 (.int .i64 c)
theorem errW_none : errW none = .nilIface:=rfl
theorem errW_some (c : Int) : errW (some c) = .iface 0 (.int .i64 c):=rfl
theorem info3 : (Try.prog.info? 3).map (fun i=>(i.zero,i.size,i.bytes)) = some (some (.int .i64 0),1,8):=by kernel_rfl
theorem info5 : (Try.prog.info? 5).map (fun i=>(i.zero,i.size,i.bytes)) = some (some (.int .u8 0),1,1):=by kernel_rfl
theorem info56 : (Try.prog.info? 56).map (fun i=>(i.zero,i.size,i.bytes)) = some (some (.agg #[(.int .i64 0),(.int .i64 0),(.int .i64 0),(.string ⟨#[]⟩)]),4,40):=by kernel_rfl
theorem info83 : (Try.prog.info? 83).map (fun i=>(i.zero,i.size,i.bytes)) = some (some (.agg #[(.bool false),(.int .i64 0),(.slice none 0 0)]),3,40):=by kernel_rfl
theorem info89 : (Try.prog.info? 89).map (fun i=>(i.zero,i.size,i.bytes)) = some (some (.agg #[(.int .i64 0),(.int .i64 0)]),2,16):=by kernel_rfl
theorem info101 : (Try.prog.info? 101).map (fun i=>(i.zero,i.size,i.bytes)) = some (some (.agg #[(.int .i64 0),(.string ⟨#[]⟩)]),2,24):=by kernel_rfl
theorem info147 : (Try.prog.info? 147).map (fun i=>(i.zero,i.size,i.bytes)) = some (some (.agg #[(.bool false),(.slice none 0 0)]),2,32):=by kernel_rfl
-- the values' own types
structure S121 where
 f0 : Int
 f1 : Int
def z121 : S121:=⟨(0 : Int),(0 : Int)⟩
def k121 : Kd S121:=Kd.iso (Kd.pair (Kd.int .i64) (Kd.int .i64)) (fun x : S121=>(x.f0,x.f1))
theorem k121_open {w : World} {x : S121} {cs : List Value} (h : k121.K w x cs) : cs = [.int .i64 x.f0,.int .i64 x.f1]:=by
 obtain ⟨_,_,rfl,rfl,rfl⟩:=h;exact rfl
theorem k121_openM {w : World} {base : Nat} {ok : Nat → Prop} {x : S121} {cs : List Value} (h : k121.M w base ok x cs) : cs = [.int .i64 x.f0,.int .i64 x.f1]:=by
 obtain ⟨_,_,rfl,rfl,rfl⟩:=h;exact rfl
theorem k121_mk (w : World) (x : S121)  : k121.K w x [.int .i64 x.f0,.int .i64 x.f1]:=⟨[.int .i64 x.f0],[.int .i64 x.f1],rfl,rfl,rfl⟩
theorem k121_mkM (w : World) (base : Nat) (ok : Nat → Prop) (x : S121)  : k121.M w base ok x [.int .i64 x.f0,.int .i64 x.f1]:=⟨[.int .i64 x.f0],[.int .i64 x.f1],rfl,rfl,rfl⟩
theorem k121_mkF (W : World) (ok : Nat → Prop) (x : S121) : Kd.FK k121 W ok x [.int .i64 x.f0,.int .i64 x.f1]:=fun W2 _=>k121_mk W2 x
def rd_T121 (xs : List S121) (i : Int) : S121:=xs.getD i.toNat z121
theorem at_T121 {w : World} {A : Option Addr} {n : Nat} {xs : List S121} (h : Kd.C k121 w A n xs) (i : Int) (h0 : 0 ≤ i) (h1 : i < n) : ∃ ad ,A = some ad ∧ w.cell? (ad.add (i.toNat * 2)) = some (.int .i64 (rd_T121 xs i).f0) ∧ w.cell? ⟨(ad.add (i.toNat * 2)).block,(ad.add (i.toNat * 2)).off + 1,none⟩ = some (.int .i64 (rd_T121 xs i).f1):=by
 obtain ⟨ad,c,e,_,hK,hc0⟩:=Kd.C_get h z121 i h0 h1;have hc : ∀ j u,c[j]? = some u → w.cell? (ad.add (i.toNat * 2 + j)) = some u:=hc0;obtain rfl:=k121_open hK;exact ⟨ad,e,hc 0 _ rfl,by rw [← add_field _ _ 1 (by omega)];exact hc 1 _ rfl⟩
def rd_L3 (xs : List (List Int)) (i : Int) : (List Int):=xs.getD i.toNat ([] : List Int)
theorem at_L3 {w : World} {A : Option Addr} {n : Nat} {xs : List (List Int)} (h : Kd.C (Kd.slice 3 (Kd.int .i64)) w A n xs) (i : Int) (h0 : 0 ≤ i) (h1 : i < n) : ∃ ad A0 c0,A = some ad ∧ w.cell? (ad.add i.toNat) = some (.slice A0 (rd_L3 xs i).length c0) ∧ (rd_L3 xs i).length ≤ c0 ∧ (Kd.int .i64).C w A0 (rd_L3 xs i).length (rd_L3 xs i):=by
 obtain ⟨ad,c,e,_,hK,hc0⟩:=Kd.C_get h ([] : List Int) i h0 h1;have hc : ∀ j u,c[j]? = some u → w.cell? (ad.add (i.toNat * 1 + j)) = some u:=hc0;obtain ⟨A0,c0,rfl,l0,g0⟩:=hK;exact ⟨ad,A0,c0,e,by have hq:=hc 0 _ rfl;rwa [Nat.mul_one,Nat.add_zero] at hq,l0,g0⟩
structure S144 where
 f0 : Bool
 f1 : (List Int)
def z144 : S144:=⟨false,([] : List Int)⟩
def k144 : Kd S144:=Kd.iso (Kd.pair Kd.bool (Kd.slice 3 (Kd.int .i64))) (fun x : S144=>(x.f0,x.f1))
theorem k144_open {w : World} {x : S144} {cs : List Value} (h : k144.K w x cs) : ∃ A1 c1,cs = [.bool x.f0,.slice A1 x.f1.length c1] ∧ x.f1.length ≤ c1 ∧ (Kd.int .i64).C w A1 x.f1.length x.f1:=by
 obtain ⟨_,_,rfl,rfl,⟨A1,c1,rfl,l1,g1⟩⟩:=h;exact ⟨A1,c1,rfl,l1,g1⟩
theorem k144_openM {w : World} {base : Nat} {ok : Nat → Prop} {x : S144} {cs : List Value} (h : k144.M w base ok x cs) : ∃ v1,cs = [.bool x.f0,v1] ∧ (Kd.int .i64).R 3 w base ok v1 x.f1:=by
 obtain ⟨_,_,rfl,rfl,⟨v1,rfl,g1⟩⟩:=h;exact ⟨v1,rfl,g1⟩
theorem k144_mk (w : World) (x : S144) {A1 : Option Addr} {c1 : Nat} (l1 : x.f1.length ≤ c1) (g1 : (Kd.int .i64).C w A1 x.f1.length x.f1) : k144.K w x [.bool x.f0,.slice A1 x.f1.length c1]:=⟨[.bool x.f0],[.slice A1 x.f1.length c1],rfl,rfl,⟨A1,c1,rfl,l1,g1⟩⟩
theorem k144_mkM (w : World) (base : Nat) (ok : Nat → Prop) (x : S144) {v1 : Value} (g1 : (Kd.int .i64).R 3 w base ok v1 x.f1) : k144.M w base ok x [.bool x.f0,v1]:=⟨[.bool x.f0],[v1],rfl,rfl,⟨v1,rfl,g1⟩⟩
theorem k144_openF {W : World} {ok : Nat → Prop} {x : S144} {cs : List Value} (h : Kd.FK k144 W ok x cs) : ∃ A1 c1,cs = [.bool x.f0,.slice A1 x.f1.length c1] ∧ x.f1.length ≤ c1 ∧ Kd.F (Kd.int .i64) W ok A1 x.f1.length x.f1:=by
 obtain ⟨A1,c1,rfl,l1,_⟩:=k144_open (Kd.FK_now h);exact ⟨A1,c1,rfl,l1,(fun W' hW=>by obtain ⟨A1_,c1_,he,l1_,g1_⟩:=k144_open (h W' hW);injection (Option.some.inj (show some (Value.slice A1 x.f1.length c1) = some (Value.slice A1_ x.f1.length c1_) from congrArg (fun l=>l[1]?) he)) with ha_ _ _;rw [ha_];exact g1_)⟩
theorem k144_mkF (W : World) (ok : Nat → Prop) (x : S144) {A1 : Option Addr} {c1 : Nat} (l1 : x.f1.length ≤ c1) (g1 : Kd.F (Kd.int .i64) W ok A1 x.f1.length x.f1) : Kd.FK k144 W ok x [.bool x.f0,.slice A1 x.f1.length c1]:=fun W2 hW=>k144_mk W2 x l1 (g1 W2 hW)
def rd_T144 (xs : List S144) (i : Int) : S144:=xs.getD i.toNat z144
theorem at_T144 {w : World} {A : Option Addr} {n : Nat} {xs : List S144} (h : Kd.C k144 w A n xs) (i : Int) (h0 : 0 ≤ i) (h1 : i < n) : ∃ ad A1 c1,A = some ad ∧ w.cell? (ad.add (i.toNat * 2)) = some (.bool (rd_T144 xs i).f0) ∧ w.cell? ⟨(ad.add (i.toNat * 2)).block,(ad.add (i.toNat * 2)).off + 1,none⟩ = some (.slice A1 (rd_T144 xs i).f1.length c1) ∧ (rd_T144 xs i).f1.length ≤ c1 ∧ (Kd.int .i64).C w A1 (rd_T144 xs i).f1.length (rd_T144 xs i).f1:=by
 obtain ⟨ad,c,e,_,hK,hc0⟩:=Kd.C_get h z144 i h0 h1;have hc : ∀ j u,c[j]? = some u → w.cell? (ad.add (i.toNat * 2 + j)) = some u:=hc0;obtain ⟨A1,c1,rfl,l1,g1⟩:=k144_open hK;exact ⟨ad,A1,c1,e,hc 0 _ rfl,by rw [← add_field _ _ 1 (by omega)];exact hc 1 _ rfl,l1,g1⟩
structure S147 where
 f0 : Bool
 f1 : (List Int)
def z147 : S147:=⟨false,([] : List Int)⟩
def k147 : Kd S147:=Kd.iso (Kd.pair Kd.bool (Kd.slice 3 (Kd.int .i64))) (fun x : S147=>(x.f0,x.f1))
theorem k147_open {w : World} {x : S147} {cs : List Value} (h : k147.K w x cs) : ∃ A1 c1,cs = [.bool x.f0,.slice A1 x.f1.length c1] ∧ x.f1.length ≤ c1 ∧ (Kd.int .i64).C w A1 x.f1.length x.f1:=by
 obtain ⟨_,_,rfl,rfl,⟨A1,c1,rfl,l1,g1⟩⟩:=h;exact ⟨A1,c1,rfl,l1,g1⟩
theorem k147_openM {w : World} {base : Nat} {ok : Nat → Prop} {x : S147} {cs : List Value} (h : k147.M w base ok x cs) : ∃ v1,cs = [.bool x.f0,v1] ∧ (Kd.int .i64).R 3 w base ok v1 x.f1:=by
 obtain ⟨_,_,rfl,rfl,⟨v1,rfl,g1⟩⟩:=h;exact ⟨v1,rfl,g1⟩
theorem k147_mk (w : World) (x : S147) {A1 : Option Addr} {c1 : Nat} (l1 : x.f1.length ≤ c1) (g1 : (Kd.int .i64).C w A1 x.f1.length x.f1) : k147.K w x [.bool x.f0,.slice A1 x.f1.length c1]:=⟨[.bool x.f0],[.slice A1 x.f1.length c1],rfl,rfl,⟨A1,c1,rfl,l1,g1⟩⟩
theorem k147_mkM (w : World) (base : Nat) (ok : Nat → Prop) (x : S147) {v1 : Value} (g1 : (Kd.int .i64).R 3 w base ok v1 x.f1) : k147.M w base ok x [.bool x.f0,v1]:=⟨[.bool x.f0],[v1],rfl,rfl,⟨v1,rfl,g1⟩⟩
theorem k147_openF {W : World} {ok : Nat → Prop} {x : S147} {cs : List Value} (h : Kd.FK k147 W ok x cs) : ∃ A1 c1,cs = [.bool x.f0,.slice A1 x.f1.length c1] ∧ x.f1.length ≤ c1 ∧ Kd.F (Kd.int .i64) W ok A1 x.f1.length x.f1:=by
 obtain ⟨A1,c1,rfl,l1,_⟩:=k147_open (Kd.FK_now h);exact ⟨A1,c1,rfl,l1,(fun W' hW=>by obtain ⟨A1_,c1_,he,l1_,g1_⟩:=k147_open (h W' hW);injection (Option.some.inj (show some (Value.slice A1 x.f1.length c1) = some (Value.slice A1_ x.f1.length c1_) from congrArg (fun l=>l[1]?) he)) with ha_ _ _;rw [ha_];exact g1_)⟩
theorem k147_mkF (W : World) (ok : Nat → Prop) (x : S147) {A1 : Option Addr} {c1 : Nat} (l1 : x.f1.length ≤ c1) (g1 : Kd.F (Kd.int .i64) W ok A1 x.f1.length x.f1) : Kd.FK k147 W ok x [.bool x.f0,.slice A1 x.f1.length c1]:=fun W2 hW=>k147_mk W2 x l1 (g1 W2 hW)
def rd_T147 (xs : List S147) (i : Int) : S147:=xs.getD i.toNat z147
theorem at_T147 {w : World} {A : Option Addr} {n : Nat} {xs : List S147} (h : Kd.C k147 w A n xs) (i : Int) (h0 : 0 ≤ i) (h1 : i < n) : ∃ ad A1 c1,A = some ad ∧ w.cell? (ad.add (i.toNat * 2)) = some (.bool (rd_T147 xs i).f0) ∧ w.cell? ⟨(ad.add (i.toNat * 2)).block,(ad.add (i.toNat * 2)).off + 1,none⟩ = some (.slice A1 (rd_T147 xs i).f1.length c1) ∧ (rd_T147 xs i).f1.length ≤ c1 ∧ (Kd.int .i64).C w A1 (rd_T147 xs i).f1.length (rd_T147 xs i).f1:=by
 obtain ⟨ad,c,e,_,hK,hc0⟩:=Kd.C_get h z147 i h0 h1;have hc : ∀ j u,c[j]? = some u → w.cell? (ad.add (i.toNat * 2 + j)) = some u:=hc0;obtain ⟨A1,c1,rfl,l1,g1⟩:=k147_open hK;exact ⟨ad,A1,c1,e,hc 0 _ rfl,by rw [← add_field _ _ 1 (by omega)];exact hc 1 _ rfl,l1,g1⟩
structure S89 where
 f0 : Int
 f1 : Int
def z89 : S89:=⟨(0 : Int),(0 : Int)⟩
def k89 : Kd S89:=Kd.iso (Kd.pair (Kd.int .i64) (Kd.int .i64)) (fun x : S89=>(x.f0,x.f1))
theorem k89_open {w : World} {x : S89} {cs : List Value} (h : k89.K w x cs) : cs = [.int .i64 x.f0,.int .i64 x.f1]:=by
 obtain ⟨_,_,rfl,rfl,rfl⟩:=h;exact rfl
theorem k89_openM {w : World} {base : Nat} {ok : Nat → Prop} {x : S89} {cs : List Value} (h : k89.M w base ok x cs) : cs = [.int .i64 x.f0,.int .i64 x.f1]:=by
 obtain ⟨_,_,rfl,rfl,rfl⟩:=h;exact rfl
theorem k89_mk (w : World) (x : S89)  : k89.K w x [.int .i64 x.f0,.int .i64 x.f1]:=⟨[.int .i64 x.f0],[.int .i64 x.f1],rfl,rfl,rfl⟩
theorem k89_mkM (w : World) (base : Nat) (ok : Nat → Prop) (x : S89)  : k89.M w base ok x [.int .i64 x.f0,.int .i64 x.f1]:=⟨[.int .i64 x.f0],[.int .i64 x.f1],rfl,rfl,rfl⟩
theorem k89_mkF (W : World) (ok : Nat → Prop) (x : S89) : Kd.FK k89 W ok x [.int .i64 x.f0,.int .i64 x.f1]:=fun W2 _=>k89_mk W2 x
def rd_T89 (xs : List S89) (i : Int) : S89:=xs.getD i.toNat z89
theorem at_T89 {w : World} {A : Option Addr} {n : Nat} {xs : List S89} (h : Kd.C k89 w A n xs) (i : Int) (h0 : 0 ≤ i) (h1 : i < n) : ∃ ad ,A = some ad ∧ w.cell? (ad.add (i.toNat * 2)) = some (.int .i64 (rd_T89 xs i).f0) ∧ w.cell? ⟨(ad.add (i.toNat * 2)).block,(ad.add (i.toNat * 2)).off + 1,none⟩ = some (.int .i64 (rd_T89 xs i).f1):=by
 obtain ⟨ad,c,e,_,hK,hc0⟩:=Kd.C_get h z89 i h0 h1;have hc : ∀ j u,c[j]? = some u → w.cell? (ad.add (i.toNat * 2 + j)) = some u:=hc0;obtain rfl:=k89_open hK;exact ⟨ad,e,hc 0 _ rfl,by rw [← add_field _ _ 1 (by omega)];exact hc 1 _ rfl⟩
structure S176 where
 f0 : Int
 f1 : ByteArray
def z176 : S176:=⟨(0 : Int),(⟨#[]⟩ : ByteArray)⟩
def k176 : Kd S176:=Kd.iso (Kd.pair (Kd.int .i64) Kd.string) (fun x : S176=>(x.f0,x.f1))
theorem k176_open {w : World} {x : S176} {cs : List Value} (h : k176.K w x cs) : cs = [.int .i64 x.f0,.string x.f1]:=by
 obtain ⟨_,_,rfl,rfl,rfl⟩:=h;exact rfl
theorem k176_openM {w : World} {base : Nat} {ok : Nat → Prop} {x : S176} {cs : List Value} (h : k176.M w base ok x cs) : cs = [.int .i64 x.f0,.string x.f1]:=by
 obtain ⟨_,_,rfl,rfl,rfl⟩:=h;exact rfl
theorem k176_mk (w : World) (x : S176)  : k176.K w x [.int .i64 x.f0,.string x.f1]:=⟨[.int .i64 x.f0],[.string x.f1],rfl,rfl,rfl⟩
theorem k176_mkM (w : World) (base : Nat) (ok : Nat → Prop) (x : S176)  : k176.M w base ok x [.int .i64 x.f0,.string x.f1]:=⟨[.int .i64 x.f0],[.string x.f1],rfl,rfl,rfl⟩
theorem k176_mkF (W : World) (ok : Nat → Prop) (x : S176) : Kd.FK k176 W ok x [.int .i64 x.f0,.string x.f1]:=fun W2 _=>k176_mk W2 x
def rd_T176 (xs : List S176) (i : Int) : S176:=xs.getD i.toNat z176
theorem at_T176 {w : World} {A : Option Addr} {n : Nat} {xs : List S176} (h : Kd.C k176 w A n xs) (i : Int) (h0 : 0 ≤ i) (h1 : i < n) : ∃ ad ,A = some ad ∧ w.cell? (ad.add (i.toNat * 2)) = some (.int .i64 (rd_T176 xs i).f0) ∧ w.cell? ⟨(ad.add (i.toNat * 2)).block,(ad.add (i.toNat * 2)).off + 1,none⟩ = some (.string (rd_T176 xs i).f1):=by
 obtain ⟨ad,c,e,_,hK,hc0⟩:=Kd.C_get h z176 i h0 h1;have hc : ∀ j u,c[j]? = some u → w.cell? (ad.add (i.toNat * 2 + j)) = some u:=hc0;obtain rfl:=k176_open hK;exact ⟨ad,e,hc 0 _ rfl,by rw [← add_field _ _ 1 (by omega)];exact hc 1 _ rfl⟩
def rd_L9 (xs : List (List S176)) (i : Int) : (List S176):=xs.getD i.toNat ([] : List S176)
theorem at_L9 {w : World} {A : Option Addr} {n : Nat} {xs : List (List S176)} (h : Kd.C (Kd.slice 176 k176) w A n xs) (i : Int) (h0 : 0 ≤ i) (h1 : i < n) : ∃ ad A0 c0,A = some ad ∧ w.cell? (ad.add i.toNat) = some (.slice A0 (rd_L9 xs i).length c0) ∧ (rd_L9 xs i).length ≤ c0 ∧ k176.C w A0 (rd_L9 xs i).length (rd_L9 xs i):=by
 obtain ⟨ad,c,e,_,hK,hc0⟩:=Kd.C_get h ([] : List S176) i h0 h1;have hc : ∀ j u,c[j]? = some u → w.cell? (ad.add (i.toNat * 1 + j)) = some u:=hc0;obtain ⟨A0,c0,rfl,l0,g0⟩:=hK;exact ⟨ad,A0,c0,e,by have hq:=hc 0 _ rfl;rwa [Nat.mul_one,Nat.add_zero] at hq,l0,g0⟩
structure S129 where
 f0 : Bool
 f1 : Int
 f2 : (List S176)
def z129 : S129:=⟨false,(0 : Int),([] : List S176)⟩
def k129 : Kd S129:=Kd.iso (Kd.pair Kd.bool (Kd.pair (Kd.int .i64) (Kd.slice 176 k176))) (fun x : S129=>(x.f0,x.f1,x.f2))
theorem k129_open {w : World} {x : S129} {cs : List Value} (h : k129.K w x cs) : ∃ A2 c2,cs = [.bool x.f0,.int .i64 x.f1,.slice A2 x.f2.length c2] ∧ x.f2.length ≤ c2 ∧ k176.C w A2 x.f2.length x.f2:=by
 obtain ⟨_,_,rfl,rfl,⟨_,_,rfl,rfl,⟨A2,c2,rfl,l2,g2⟩⟩⟩:=h;exact ⟨A2,c2,rfl,l2,g2⟩
theorem k129_openM {w : World} {base : Nat} {ok : Nat → Prop} {x : S129} {cs : List Value} (h : k129.M w base ok x cs) : ∃ v2,cs = [.bool x.f0,.int .i64 x.f1,v2] ∧ k176.R 176 w base ok v2 x.f2:=by
 obtain ⟨_,_,rfl,rfl,⟨_,_,rfl,rfl,⟨v2,rfl,g2⟩⟩⟩:=h;exact ⟨v2,rfl,g2⟩
theorem k129_mk (w : World) (x : S129) {A2 : Option Addr} {c2 : Nat} (l2 : x.f2.length ≤ c2) (g2 : k176.C w A2 x.f2.length x.f2) : k129.K w x [.bool x.f0,.int .i64 x.f1,.slice A2 x.f2.length c2]:=⟨[.bool x.f0],[.int .i64 x.f1,.slice A2 x.f2.length c2],rfl,rfl,⟨[.int .i64 x.f1],[.slice A2 x.f2.length c2],rfl,rfl,⟨A2,c2,rfl,l2,g2⟩⟩⟩
theorem k129_mkM (w : World) (base : Nat) (ok : Nat → Prop) (x : S129) {v2 : Value} (g2 : k176.R 176 w base ok v2 x.f2) : k129.M w base ok x [.bool x.f0,.int .i64 x.f1,v2]:=⟨[.bool x.f0],[.int .i64 x.f1,v2],rfl,rfl,⟨[.int .i64 x.f1],[v2],rfl,rfl,⟨v2,rfl,g2⟩⟩⟩
theorem k129_openF {W : World} {ok : Nat → Prop} {x : S129} {cs : List Value} (h : Kd.FK k129 W ok x cs) : ∃ A2 c2,cs = [.bool x.f0,.int .i64 x.f1,.slice A2 x.f2.length c2] ∧ x.f2.length ≤ c2 ∧ Kd.F k176 W ok A2 x.f2.length x.f2:=by
 obtain ⟨A2,c2,rfl,l2,_⟩:=k129_open (Kd.FK_now h);exact ⟨A2,c2,rfl,l2,(fun W' hW=>by obtain ⟨A2_,c2_,he,l2_,g2_⟩:=k129_open (h W' hW);injection (Option.some.inj (show some (Value.slice A2 x.f2.length c2) = some (Value.slice A2_ x.f2.length c2_) from congrArg (fun l=>l[2]?) he)) with ha_ _ _;rw [ha_];exact g2_)⟩
theorem k129_mkF (W : World) (ok : Nat → Prop) (x : S129) {A2 : Option Addr} {c2 : Nat} (l2 : x.f2.length ≤ c2) (g2 : Kd.F k176 W ok A2 x.f2.length x.f2) : Kd.FK k129 W ok x [.bool x.f0,.int .i64 x.f1,.slice A2 x.f2.length c2]:=fun W2 hW=>k129_mk W2 x l2 (g2 W2 hW)
def rd_T129 (xs : List S129) (i : Int) : S129:=xs.getD i.toNat z129
theorem at_T129 {w : World} {A : Option Addr} {n : Nat} {xs : List S129} (h : Kd.C k129 w A n xs) (i : Int) (h0 : 0 ≤ i) (h1 : i < n) : ∃ ad A2 c2,A = some ad ∧ w.cell? (ad.add (i.toNat * 3)) = some (.bool (rd_T129 xs i).f0) ∧ w.cell? ⟨(ad.add (i.toNat * 3)).block,(ad.add (i.toNat * 3)).off + 1,none⟩ = some (.int .i64 (rd_T129 xs i).f1) ∧ w.cell? ⟨(ad.add (i.toNat * 3)).block,(ad.add (i.toNat * 3)).off + 2,none⟩ = some (.slice A2 (rd_T129 xs i).f2.length c2) ∧ (rd_T129 xs i).f2.length ≤ c2 ∧ k176.C w A2 (rd_T129 xs i).f2.length (rd_T129 xs i).f2:=by
 obtain ⟨ad,c,e,_,hK,hc0⟩:=Kd.C_get h z129 i h0 h1;have hc : ∀ j u,c[j]? = some u → w.cell? (ad.add (i.toNat * 3 + j)) = some u:=hc0;obtain ⟨A2,c2,rfl,l2,g2⟩:=k129_open hK;exact ⟨ad,A2,c2,e,hc 0 _ rfl,by rw [← add_field _ _ 1 (by omega)];exact hc 1 _ rfl,by rw [← add_field _ _ 2 (by omega)];exact hc 2 _ rfl,l2,g2⟩
structure S101 where
 f0 : Int
 f1 : ByteArray
def z101 : S101:=⟨(0 : Int),(⟨#[]⟩ : ByteArray)⟩
def k101 : Kd S101:=Kd.iso (Kd.pair (Kd.int .i64) Kd.string) (fun x : S101=>(x.f0,x.f1))
theorem k101_open {w : World} {x : S101} {cs : List Value} (h : k101.K w x cs) : cs = [.int .i64 x.f0,.string x.f1]:=by
 obtain ⟨_,_,rfl,rfl,rfl⟩:=h;exact rfl
theorem k101_openM {w : World} {base : Nat} {ok : Nat → Prop} {x : S101} {cs : List Value} (h : k101.M w base ok x cs) : cs = [.int .i64 x.f0,.string x.f1]:=by
 obtain ⟨_,_,rfl,rfl,rfl⟩:=h;exact rfl
theorem k101_mk (w : World) (x : S101)  : k101.K w x [.int .i64 x.f0,.string x.f1]:=⟨[.int .i64 x.f0],[.string x.f1],rfl,rfl,rfl⟩
theorem k101_mkM (w : World) (base : Nat) (ok : Nat → Prop) (x : S101)  : k101.M w base ok x [.int .i64 x.f0,.string x.f1]:=⟨[.int .i64 x.f0],[.string x.f1],rfl,rfl,rfl⟩
theorem k101_mkF (W : World) (ok : Nat → Prop) (x : S101) : Kd.FK k101 W ok x [.int .i64 x.f0,.string x.f1]:=fun W2 _=>k101_mk W2 x
def rd_T101 (xs : List S101) (i : Int) : S101:=xs.getD i.toNat z101
theorem at_T101 {w : World} {A : Option Addr} {n : Nat} {xs : List S101} (h : Kd.C k101 w A n xs) (i : Int) (h0 : 0 ≤ i) (h1 : i < n) : ∃ ad ,A = some ad ∧ w.cell? (ad.add (i.toNat * 2)) = some (.int .i64 (rd_T101 xs i).f0) ∧ w.cell? ⟨(ad.add (i.toNat * 2)).block,(ad.add (i.toNat * 2)).off + 1,none⟩ = some (.string (rd_T101 xs i).f1):=by
 obtain ⟨ad,c,e,_,hK,hc0⟩:=Kd.C_get h z101 i h0 h1;have hc : ∀ j u,c[j]? = some u → w.cell? (ad.add (i.toNat * 2 + j)) = some u:=hc0;obtain rfl:=k101_open hK;exact ⟨ad,e,hc 0 _ rfl,by rw [← add_field _ _ 1 (by omega)];exact hc 1 _ rfl⟩
def rd_L12 (xs : List (List S101)) (i : Int) : (List S101):=xs.getD i.toNat ([] : List S101)
theorem at_L12 {w : World} {A : Option Addr} {n : Nat} {xs : List (List S101)} (h : Kd.C (Kd.slice 101 k101) w A n xs) (i : Int) (h0 : 0 ≤ i) (h1 : i < n) : ∃ ad A0 c0,A = some ad ∧ w.cell? (ad.add i.toNat) = some (.slice A0 (rd_L12 xs i).length c0) ∧ (rd_L12 xs i).length ≤ c0 ∧ k101.C w A0 (rd_L12 xs i).length (rd_L12 xs i):=by
 obtain ⟨ad,c,e,_,hK,hc0⟩:=Kd.C_get h ([] : List S101) i h0 h1;have hc : ∀ j u,c[j]? = some u → w.cell? (ad.add (i.toNat * 1 + j)) = some u:=hc0;obtain ⟨A0,c0,rfl,l0,g0⟩:=hK;exact ⟨ad,A0,c0,e,by have hq:=hc 0 _ rfl;rwa [Nat.mul_one,Nat.add_zero] at hq,l0,g0⟩
structure S83 where
 f0 : Bool
 f1 : Int
 f2 : (List S101)
def z83 : S83:=⟨false,(0 : Int),([] : List S101)⟩
def k83 : Kd S83:=Kd.iso (Kd.pair Kd.bool (Kd.pair (Kd.int .i64) (Kd.slice 101 k101))) (fun x : S83=>(x.f0,x.f1,x.f2))
theorem k83_open {w : World} {x : S83} {cs : List Value} (h : k83.K w x cs) : ∃ A2 c2,cs = [.bool x.f0,.int .i64 x.f1,.slice A2 x.f2.length c2] ∧ x.f2.length ≤ c2 ∧ k101.C w A2 x.f2.length x.f2:=by
 obtain ⟨_,_,rfl,rfl,⟨_,_,rfl,rfl,⟨A2,c2,rfl,l2,g2⟩⟩⟩:=h;exact ⟨A2,c2,rfl,l2,g2⟩
theorem k83_openM {w : World} {base : Nat} {ok : Nat → Prop} {x : S83} {cs : List Value} (h : k83.M w base ok x cs) : ∃ v2,cs = [.bool x.f0,.int .i64 x.f1,v2] ∧ k101.R 101 w base ok v2 x.f2:=by
 obtain ⟨_,_,rfl,rfl,⟨_,_,rfl,rfl,⟨v2,rfl,g2⟩⟩⟩:=h;exact ⟨v2,rfl,g2⟩
theorem k83_mk (w : World) (x : S83) {A2 : Option Addr} {c2 : Nat} (l2 : x.f2.length ≤ c2) (g2 : k101.C w A2 x.f2.length x.f2) : k83.K w x [.bool x.f0,.int .i64 x.f1,.slice A2 x.f2.length c2]:=⟨[.bool x.f0],[.int .i64 x.f1,.slice A2 x.f2.length c2],rfl,rfl,⟨[.int .i64 x.f1],[.slice A2 x.f2.length c2],rfl,rfl,⟨A2,c2,rfl,l2,g2⟩⟩⟩
theorem k83_mkM (w : World) (base : Nat) (ok : Nat → Prop) (x : S83) {v2 : Value} (g2 : k101.R 101 w base ok v2 x.f2) : k83.M w base ok x [.bool x.f0,.int .i64 x.f1,v2]:=⟨[.bool x.f0],[.int .i64 x.f1,v2],rfl,rfl,⟨[.int .i64 x.f1],[v2],rfl,rfl,⟨v2,rfl,g2⟩⟩⟩
theorem k83_openF {W : World} {ok : Nat → Prop} {x : S83} {cs : List Value} (h : Kd.FK k83 W ok x cs) : ∃ A2 c2,cs = [.bool x.f0,.int .i64 x.f1,.slice A2 x.f2.length c2] ∧ x.f2.length ≤ c2 ∧ Kd.F k101 W ok A2 x.f2.length x.f2:=by
 obtain ⟨A2,c2,rfl,l2,_⟩:=k83_open (Kd.FK_now h);exact ⟨A2,c2,rfl,l2,(fun W' hW=>by obtain ⟨A2_,c2_,he,l2_,g2_⟩:=k83_open (h W' hW);injection (Option.some.inj (show some (Value.slice A2 x.f2.length c2) = some (Value.slice A2_ x.f2.length c2_) from congrArg (fun l=>l[2]?) he)) with ha_ _ _;rw [ha_];exact g2_)⟩
theorem k83_mkF (W : World) (ok : Nat → Prop) (x : S83) {A2 : Option Addr} {c2 : Nat} (l2 : x.f2.length ≤ c2) (g2 : Kd.F k101 W ok A2 x.f2.length x.f2) : Kd.FK k83 W ok x [.bool x.f0,.int .i64 x.f1,.slice A2 x.f2.length c2]:=fun W2 hW=>k83_mk W2 x l2 (g2 W2 hW)
def rd_T83 (xs : List S83) (i : Int) : S83:=xs.getD i.toNat z83
theorem at_T83 {w : World} {A : Option Addr} {n : Nat} {xs : List S83} (h : Kd.C k83 w A n xs) (i : Int) (h0 : 0 ≤ i) (h1 : i < n) : ∃ ad A2 c2,A = some ad ∧ w.cell? (ad.add (i.toNat * 3)) = some (.bool (rd_T83 xs i).f0) ∧ w.cell? ⟨(ad.add (i.toNat * 3)).block,(ad.add (i.toNat * 3)).off + 1,none⟩ = some (.int .i64 (rd_T83 xs i).f1) ∧ w.cell? ⟨(ad.add (i.toNat * 3)).block,(ad.add (i.toNat * 3)).off + 2,none⟩ = some (.slice A2 (rd_T83 xs i).f2.length c2) ∧ (rd_T83 xs i).f2.length ≤ c2 ∧ k101.C w A2 (rd_T83 xs i).f2.length (rd_T83 xs i).f2:=by
 obtain ⟨ad,c,e,_,hK,hc0⟩:=Kd.C_get h z83 i h0 h1;have hc : ∀ j u,c[j]? = some u → w.cell? (ad.add (i.toNat * 3 + j)) = some u:=hc0;obtain ⟨A2,c2,rfl,l2,g2⟩:=k83_open hK;exact ⟨ad,A2,c2,e,hc 0 _ rfl,by rw [← add_field _ _ 1 (by omega)];exact hc 1 _ rfl,by rw [← add_field _ _ 2 (by omega)];exact hc 2 _ rfl,l2,g2⟩
structure S47 where
 f0 : Int
 f1 : Int
 f2 : Int
 f3 : ByteArray
def z47 : S47:=⟨(0 : Int),(0 : Int),(0 : Int),(⟨#[]⟩ : ByteArray)⟩
def k47 : Kd S47:=Kd.iso (Kd.pair (Kd.int .i64) (Kd.pair (Kd.int .i64) (Kd.pair (Kd.int .i64) Kd.string))) (fun x : S47=>(x.f0,x.f1,x.f2,x.f3))
theorem k47_open {w : World} {x : S47} {cs : List Value} (h : k47.K w x cs) : cs = [.int .i64 x.f0,.int .i64 x.f1,.int .i64 x.f2,.string x.f3]:=by
 obtain ⟨_,_,rfl,rfl,⟨_,_,rfl,rfl,⟨_,_,rfl,rfl,rfl⟩⟩⟩:=h;exact rfl
theorem k47_openM {w : World} {base : Nat} {ok : Nat → Prop} {x : S47} {cs : List Value} (h : k47.M w base ok x cs) : cs = [.int .i64 x.f0,.int .i64 x.f1,.int .i64 x.f2,.string x.f3]:=by
 obtain ⟨_,_,rfl,rfl,⟨_,_,rfl,rfl,⟨_,_,rfl,rfl,rfl⟩⟩⟩:=h;exact rfl
theorem k47_mk (w : World) (x : S47)  : k47.K w x [.int .i64 x.f0,.int .i64 x.f1,.int .i64 x.f2,.string x.f3]:=⟨[.int .i64 x.f0],[.int .i64 x.f1,.int .i64 x.f2,.string x.f3],rfl,rfl,⟨[.int .i64 x.f1],[.int .i64 x.f2,.string x.f3],rfl,rfl,⟨[.int .i64 x.f2],[.string x.f3],rfl,rfl,rfl⟩⟩⟩
theorem k47_mkM (w : World) (base : Nat) (ok : Nat → Prop) (x : S47)  : k47.M w base ok x [.int .i64 x.f0,.int .i64 x.f1,.int .i64 x.f2,.string x.f3]:=⟨[.int .i64 x.f0],[.int .i64 x.f1,.int .i64 x.f2,.string x.f3],rfl,rfl,⟨[.int .i64 x.f1],[.int .i64 x.f2,.string x.f3],rfl,rfl,⟨[.int .i64 x.f2],[.string x.f3],rfl,rfl,rfl⟩⟩⟩
theorem k47_mkF (W : World) (ok : Nat → Prop) (x : S47) : Kd.FK k47 W ok x [.int .i64 x.f0,.int .i64 x.f1,.int .i64 x.f2,.string x.f3]:=fun W2 _=>k47_mk W2 x
def rd_T47 (xs : List S47) (i : Int) : S47:=xs.getD i.toNat z47
theorem at_T47 {w : World} {A : Option Addr} {n : Nat} {xs : List S47} (h : Kd.C k47 w A n xs) (i : Int) (h0 : 0 ≤ i) (h1 : i < n) : ∃ ad ,A = some ad ∧ w.cell? (ad.add (i.toNat * 4)) = some (.int .i64 (rd_T47 xs i).f0) ∧ w.cell? ⟨(ad.add (i.toNat * 4)).block,(ad.add (i.toNat * 4)).off + 1,none⟩ = some (.int .i64 (rd_T47 xs i).f1) ∧ w.cell? ⟨(ad.add (i.toNat * 4)).block,(ad.add (i.toNat * 4)).off + 2,none⟩ = some (.int .i64 (rd_T47 xs i).f2) ∧ w.cell? ⟨(ad.add (i.toNat * 4)).block,(ad.add (i.toNat * 4)).off + 3,none⟩ = some (.string (rd_T47 xs i).f3):=by
 obtain ⟨ad,c,e,_,hK,hc0⟩:=Kd.C_get h z47 i h0 h1;have hc : ∀ j u,c[j]? = some u → w.cell? (ad.add (i.toNat * 4 + j)) = some u:=hc0;obtain rfl:=k47_open hK;exact ⟨ad,e,hc 0 _ rfl,by rw [← add_field _ _ 1 (by omega)];exact hc 1 _ rfl,by rw [← add_field _ _ 2 (by omega)];exact hc 2 _ rfl,by rw [← add_field _ _ 3 (by omega)];exact hc 3 _ rfl⟩
structure S56 where
 f0 : Int
 f1 : Int
 f2 : Int
 f3 : ByteArray
def z56 : S56:=⟨(0 : Int),(0 : Int),(0 : Int),(⟨#[]⟩ : ByteArray)⟩
def k56 : Kd S56:=Kd.iso (Kd.pair (Kd.int .i64) (Kd.pair (Kd.int .i64) (Kd.pair (Kd.int .i64) Kd.string))) (fun x : S56=>(x.f0,x.f1,x.f2,x.f3))
theorem k56_open {w : World} {x : S56} {cs : List Value} (h : k56.K w x cs) : cs = [.int .i64 x.f0,.int .i64 x.f1,.int .i64 x.f2,.string x.f3]:=by
 obtain ⟨_,_,rfl,rfl,⟨_,_,rfl,rfl,⟨_,_,rfl,rfl,rfl⟩⟩⟩:=h;exact rfl
theorem k56_openM {w : World} {base : Nat} {ok : Nat → Prop} {x : S56} {cs : List Value} (h : k56.M w base ok x cs) : cs = [.int .i64 x.f0,.int .i64 x.f1,.int .i64 x.f2,.string x.f3]:=by
 obtain ⟨_,_,rfl,rfl,⟨_,_,rfl,rfl,⟨_,_,rfl,rfl,rfl⟩⟩⟩:=h;exact rfl
theorem k56_mk (w : World) (x : S56)  : k56.K w x [.int .i64 x.f0,.int .i64 x.f1,.int .i64 x.f2,.string x.f3]:=⟨[.int .i64 x.f0],[.int .i64 x.f1,.int .i64 x.f2,.string x.f3],rfl,rfl,⟨[.int .i64 x.f1],[.int .i64 x.f2,.string x.f3],rfl,rfl,⟨[.int .i64 x.f2],[.string x.f3],rfl,rfl,rfl⟩⟩⟩
theorem k56_mkM (w : World) (base : Nat) (ok : Nat → Prop) (x : S56)  : k56.M w base ok x [.int .i64 x.f0,.int .i64 x.f1,.int .i64 x.f2,.string x.f3]:=⟨[.int .i64 x.f0],[.int .i64 x.f1,.int .i64 x.f2,.string x.f3],rfl,rfl,⟨[.int .i64 x.f1],[.int .i64 x.f2,.string x.f3],rfl,rfl,⟨[.int .i64 x.f2],[.string x.f3],rfl,rfl,rfl⟩⟩⟩
theorem k56_mkF (W : World) (ok : Nat → Prop) (x : S56) : Kd.FK k56 W ok x [.int .i64 x.f0,.int .i64 x.f1,.int .i64 x.f2,.string x.f3]:=fun W2 _=>k56_mk W2 x
def rd_T56 (xs : List S56) (i : Int) : S56:=xs.getD i.toNat z56
theorem at_T56 {w : World} {A : Option Addr} {n : Nat} {xs : List S56} (h : Kd.C k56 w A n xs) (i : Int) (h0 : 0 ≤ i) (h1 : i < n) : ∃ ad ,A = some ad ∧ w.cell? (ad.add (i.toNat * 4)) = some (.int .i64 (rd_T56 xs i).f0) ∧ w.cell? ⟨(ad.add (i.toNat * 4)).block,(ad.add (i.toNat * 4)).off + 1,none⟩ = some (.int .i64 (rd_T56 xs i).f1) ∧ w.cell? ⟨(ad.add (i.toNat * 4)).block,(ad.add (i.toNat * 4)).off + 2,none⟩ = some (.int .i64 (rd_T56 xs i).f2) ∧ w.cell? ⟨(ad.add (i.toNat * 4)).block,(ad.add (i.toNat * 4)).off + 3,none⟩ = some (.string (rd_T56 xs i).f3):=by
 obtain ⟨ad,c,e,_,hK,hc0⟩:=Kd.C_get h z56 i h0 h1;have hc : ∀ j u,c[j]? = some u → w.cell? (ad.add (i.toNat * 4 + j)) = some u:=hc0;obtain rfl:=k56_open hK;exact ⟨ad,e,hc 0 _ rfl,by rw [← add_field _ _ 1 (by omega)];exact hc 1 _ rfl,by rw [← add_field _ _ 2 (by omega)];exact hc 2 _ rfl,by rw [← add_field _ _ 3 (by omega)];exact hc 3 _ rfl⟩
def laws_markText.l0 : Nat → Int → ByteArray → Option (ByteArray)
 | 0,_,_=>none
 | k + 1,x0,x3=>if x0 > 0 then ((some (([(wrap64 (48 + (Int.tmod x0 10))) % 256] : List Int) : List Int)).bind fun y665=>(if (strOfNums y665).size + x3.size ≤ 9223372036854775807 then (laws_markText.l0 k (wrap64 (Int.tdiv x0 10)) ((strOfNums y665) ++ x3)) else (none))) else (if 1 + x3.size ≤ 9223372036854775807 then (some ((⟨#[109]⟩ : ByteArray) ++ x3)) else (none))
def laws_markText.f (k : Nat) (a0 : Int) : Option (ByteArray):=if a0 ≤ 0 then (some (⟨#[109,48]⟩ : ByteArray)) else (laws_markText.l0 k a0 (⟨#[]⟩ : ByteArray))
theorem laws_markText.mono_l : ∀ k,(∀ y0 y1,LeO (laws_markText.l0 k y0 y1) (laws_markText.l0 (k + 1) y0 y1))
 | 0=>fun _ _ r h=>by simp [laws_markText.l0] at h
 | k + 1=>by
  have ih0:=laws_markText.mono_l k;intro y0 y1;unfold laws_markText.l0
  repeat' first
  | (with_reducible exact ih0 _ _)
  | (with_reducible exact LeO.refl _)
  | (with_reducible exact LeO.none _)
  | (with_reducible refine LeO.ite ?_ ?_)
  | (with_reducible refine LeO.bind ?_ (fun _=>?_))
  | exact ih0 _ _
  | exact LeO.none _
  | refine LeO.ite ?_ ?_
  | refine LeO.bind ?_ (fun _=>?_)
theorem laws_markText.mono : ∀ a0 k,LeO (laws_markText.f k a0) (laws_markText.f (k + 1) a0):=by
 intro a0 k;have ih0:=laws_markText.mono_l k;unfold laws_markText.f
 repeat' first
   | (with_reducible exact ih0 _ _)
   | (with_reducible exact LeO.refl _)
   | (with_reducible exact LeO.none _)
   | (with_reducible refine LeO.ite ?_ ?_)
   | (with_reducible refine LeO.bind ?_ (fun _=>?_))
   | exact ih0 _ _
   | exact LeO.none _
   | refine LeO.ite ?_ ?_
   | refine LeO.bind ?_ (fun _=>?_)
set_option maxHeartbeats 8000000 in
set_option maxRecDepth 100000 in
theorem laws_markText.calls (k : Nat) (a0 : Int) (r : ByteArray) (w : World) (h : laws_markText.f k a0 = some r) :
  Calls Try.prog 66 #[.int .i64 a0] w fun e w'=>e = .returned (.string r) ∧ Below w.heap.size w w':=by
 have HB:=zMk (Below.refl w.heap.size w);have H : (if a0 ≤ 0 then (some (⟨#[109,48]⟩ : ByteArray)) else (laws_markText.l0 k a0 (⟨#[]⟩ : ByteArray))) = some r:=h;clear h
 by_cases c2 : a0 ≤ 0
 ·rw [if_pos c2] at H;have c2b0 : decide (a0 ≤ 0) = true:=decide_eq_true c2;clear c2;obtain rfl:=Option.some.inj H
  go_enter Try.func66,Try.ntmps66
  go_wp2
  go_ret
  exact ⟨by first | rfl | (simp [errW_none,errW_some] <;> rfl) | (simp [*,errW_none,errW_some] <;> rfl),hs HB⟩
 rw [if_neg c2] at H;have c2b0 : decide (a0 ≤ 0) = false:=decide_eq_false c2;clear c2;have H':=zMk H;clear H
 go_enter Try.func66,Try.ntmps66
 go_wp2
 go_loopg [0,3] k (fun kq v0 v3 w'=>∃ (x0_1 : Int) (x3_1 : ByteArray),v0 = .int .i64 x0_1 ∧ v3 = .string x3_1 ∧ Aside0 (laws_markText.l0 kq x0_1 x3_1 = some r) ∧ Aside0 (kq ≤ k) ∧ Aside0 (Below w.heap.size w w'));case atStart=>exact ⟨(a0),((⟨#[]⟩ : ByteArray)),(by first | rfl | (simp;done) | (simp [*];done)),(by first | rfl | (simp;done) | (simp [*];done)),H',⟨Nat.le_refl _⟩,⟨hs HB⟩⟩
 case round =>
  clear H'
  try clear c2
  try clear c2b0
  try clear p2
  obtain ⟨x0_1,x3_1,rfl,rfl,HA,HK1,HB⟩:=hrel;cases gk with
  | zero=>exact absurd HA.out (by simp [laws_markText.l0])
  | succ k1 =>
   have H:=HA.out;clear HA;simp only [laws_markText.l0] at H
   by_cases c3 : x0_1 > 0
   ·rw [if_pos c3] at H;have c3b0 : decide (0 < x0_1) = true:=decide_eq_true c3;clear c3;obtain ⟨y665,hy665⟩ : ∃ y_ : List Int,y_ = (([(wrap64 (48 + (Int.tmod x0_1 10))) % 256] : List Int)):=⟨_,rfl⟩;replace H : (if (strOfNums y665).size + x3_1.size ≤ 9223372036854775807 then (laws_markText.l0 k1 (wrap64 (Int.tdiv x0_1 10)) ((strOfNums y665) ++ x3_1)) else (none)) = some r:=by first | (rw [hy665];with_reducible exact H) | (have H2_:=(Option.bind_some _ _).symm.trans H;rw [hy665];with_reducible exact H2_) | (have H2_:=(Option.bind_some _ _).symm.trans H;with_reducible exact H2_) | with_reducible exact H | (rw [hy665];exact H) | exact H
    have Ny665:=zMk hy665;clear hy665
    by_cases c4 : (strOfNums y665).size + x3_1.size ≤ 9223372036854775807
    ·rw [if_pos c4] at H;have c4b0:=eq_true c4;have c4b1 : decide ((strOfNums y665).size + x3_1.size ≤ 9223372036854775807) = true:=decide_eq_true c4
     try have c4b2 : (9223372036854775807 < (strOfNums y665).size + x3_1.size) = False:=eq_false (Nat.not_lt.2 c4)
     have H':=zMk H;clear H;go_wp2_with (first | ((with_reducible refine gate_dst (N:=12) rfl ?_);refine Kd.R_lit (Kd.int .u8) _ 5 ?hg (N:=12) ?hd (xs:=([(wrap64 (48 + (Int.tmod x0_1 10))) % 256] : List Int)) (inner:=[.int .u8 ((wrap64 (48 + (Int.tmod x0_1 10))) % 256)]) (ok:=fun _=>True) (okp:=fun _=>True) ?hr ?hp (fun _ hk=>hk) trivial (Below.refl _ _) (Nat.le_refl _) (by simp) ?_;(case hd=>rfl);(case hg=>rfl);(case hr=>first | (go_simp;done) | (go_simp;rfl));(case hp=>exact (Reps.one (show Kd.M (Kd.int .u8) _ _ _ ((wrap64 (48 + (Int.tmod x0_1 10))) % 256) [.int .u8 ((wrap64 (48 + (Int.tmod x0_1 10))) % 256)] from rfl) (Reps.none _ _)));intro v666 w5 ho6 hb hg_ hnew_;clear hg_ hnew_;(first | rw [← Ny665.out] at ho6 | (simp only [Int.reduceToNat] at ho6;rw [← Ny665.out] at ho6));have n0_:=zMk (Kd.R_lower ho6 (below_size (hs HB)));have n1_:=zMk (below_step (hs HB) hb);clear HB;have HO667:=n0_;have HB:=n1_;clear n0_ n1_;clear hb ho6;have hcv7:=own_string (P:=Try.prog) Try.underlying69 Try.underlying5 Try.underlying9 (Kd.own_of_R HO667.out)));go_roundg k1;case measure=>have:=HK1.out;omega
     case rel=>exact ⟨(wrap64 (Int.tdiv x0_1 10)),((strOfNums y665) ++ x3_1),(by first | rfl | (simp;done) | (simp [*];done)),(by first | rfl | (simp;done) | (simp [*];done)),H',⟨by have:=HK1.out;omega⟩,⟨hs HB⟩⟩
    rw [if_neg c4] at H;exact absurd H (by simp)
   rw [if_neg c3] at H;have c3b0 : decide (0 < x0_1) = false:=decide_eq_false c3;clear c3
   by_cases c8 : 1 + x3_1.size ≤ 9223372036854775807
   ·rw [if_pos c8] at H;have c8b0:=eq_true c8;have c8b1 : decide (1 + x3_1.size ≤ 9223372036854775807) = true:=decide_eq_true c8
    try have c8b2 : (9223372036854775807 < 1 + x3_1.size) = False:=eq_false (Nat.not_lt.2 c8)
    obtain rfl:=Option.some.inj H
    go_wp2
    go_ret
    exact ⟨by first | rfl | (simp [errW_none,errW_some] <;> rfl) | (simp [*,errW_none,errW_some] <;> rfl),hs HB⟩
   rw [if_neg c8] at H;exact absurd H (by simp)
def laws_markLeafS.l0 : Nat → List (S101) → Int → Int → Option (Int × (List (S101)))
 | 0,_,_,_=>none
 | k + 1,x0,x1,x5=>if x5 < (x0.length : Int) then (if 0 ≤ x5 then ((some (x0.set (x5 : Int).toNat (⟨x1,(rd_T101 x0 x5).f1⟩ : S101) : List (S101))).bind fun y668=>((laws_markText.f k (wrap64 (x1 + 1))).bind fun t669=>(laws_markLeafS.l0 k (y668.set (x5 : Int).toNat (⟨(rd_T101 y668 x5).f0,t669⟩ : S101)) (wrap64 ((wrap64 (x1 + 1)) + 1)) (wrap64 (x5 + 1))))) else (none)) else (some (x1,x0))
def laws_markLeafS.f (k : Nat) (l0 : List (S101)) (a1 : Int) : Option (Int × (List (S101))):=laws_markLeafS.l0 k l0 a1 0
theorem laws_markLeafS.mono_l : ∀ k,(∀ y0 y1 y2,LeO (laws_markLeafS.l0 k y0 y1 y2) (laws_markLeafS.l0 (k + 1) y0 y1 y2))
 | 0=>fun _ _ _ r h=>by simp [laws_markLeafS.l0] at h
 | k + 1=>by
  have ih0:=laws_markLeafS.mono_l k;intro y0 y1 y2;unfold laws_markLeafS.l0
  repeat' first
  | (with_reducible exact ih0 _ _ _)
  | (with_reducible exact laws_markText.mono _ _)
  | (with_reducible exact LeO.refl _)
  | (with_reducible exact LeO.none _)
  | (with_reducible refine LeO.ite ?_ ?_)
  | (with_reducible refine LeO.bind ?_ (fun _=>?_))
  | exact ih0 _ _ _
  | exact laws_markText.mono _ _
  | exact LeO.none _
  | refine LeO.ite ?_ ?_
  | refine LeO.bind ?_ (fun _=>?_)
theorem laws_markLeafS.mono : ∀ a0 a1 k,LeO (laws_markLeafS.f k a0 a1) (laws_markLeafS.f (k + 1) a0 a1):=by
 intro a0 a1 k;have ih0:=laws_markLeafS.mono_l k;unfold laws_markLeafS.f
 repeat' first
   | (with_reducible exact ih0 _ _ _)
   | (with_reducible exact laws_markText.mono _ _)
   | (with_reducible exact LeO.refl _)
   | (with_reducible exact LeO.none _)
   | (with_reducible refine LeO.ite ?_ ?_)
   | (with_reducible refine LeO.bind ?_ (fun _=>?_))
   | exact ih0 _ _ _
   | exact laws_markText.mono _ _
   | exact LeO.none _
   | refine LeO.ite ?_ ?_
   | refine LeO.bind ?_ (fun _=>?_)
set_option maxHeartbeats 8000000 in
set_option maxRecDepth 100000 in
theorem laws_markLeafS.calls (k : Nat) (P0_ : Nat → Prop) (u9000_ : Value) (l0 : List (S101)) (a1 : Int) (r1 : Int) (r2 : List (S101)) (w0 w : World) (hB : Below w0.heap.size w0 w) (ho0 : Kd.R k101 101 w w0.heap.size P0_ u9000_ l0) (h : laws_markLeafS.f k l0 a1 = some (r1,r2)) :
  Calls Try.prog 91 #[u9000_,.int .i64 a1] w fun e w'=>e = .returned (.int .i64 r1) ∧ Kd.R k101 101 w' w0.heap.size (fun k_=>(P0_ k_ ∨ w.heap.size ≤ k_)) u9000_ r2 ∧ Below w0.heap.size w0 w' ∧ Kept w w' (fun k_=>P0_ k_):=by
 have HO0:=zMk (show Kd.R k101 101 w w0.heap.size (fun k_=>(P0_ k_ ∨ w.heap.size ≤ k_)) u9000_ l0 from Kd.R_mono ho0 (fun k_ hk=>(.inl hk)));have HK:=zMk (Kept.refl w (fun k_=>P0_ k_));have HW0:=zMk hB.size;have HB:=zMk hB;clear hB;have H : (laws_markLeafS.l0 k l0 a1 0) = some (r1,r2):=h;clear h;have H':=zMk H;clear H
 go_enter Try.func91,Try.ntmps91
 go_wp2
 go_loopg [1,5] k (fun kq v1 v5 w'=>∃ (x0_1 : List (S101)) (x1_1 : Int) (x5_1 : Int),v1 = .int .i64 x1_1 ∧ v5 = .int .i64 x5_1 ∧ Aside0 (laws_markLeafS.l0 kq x0_1 x1_1 x5_1 = some (r1,r2)) ∧ Aside0 (kq ≤ k) ∧ Aside0 (Kd.R k101 101 w' w0.heap.size (fun k_=>(P0_ k_ ∨ w.heap.size ≤ k_)) u9000_ x0_1) ∧ Aside0 (Kept w w' (fun k_=>P0_ k_)) ∧ Aside0 (Below w0.heap.size w0 w'));case atStart=>exact ⟨(l0),(a1),(0),(by first | rfl | (simp;done) | (simp [*];done)),(by first | rfl | (simp;done) | (simp [*];done)),H',⟨Nat.le_refl _⟩,⟨rs HO0⟩,⟨by repeat (first | (with_reducible first | exact HK.out | apply Kept.alloc | apply Kept.drewN | apply Kept.drew) | exact HK.out)⟩,⟨hs HB⟩⟩
 case round =>
  clear H'
  try clear p2
  obtain ⟨x0_1,x1_1,x5_1,rfl,rfl,HA,HK1,HO_0,HK,HB⟩:=hrel;cases gk with
  | zero=>exact absurd HA.out (by simp [laws_markLeafS.l0])
  | succ k1 =>
   have H:=HA.out;clear HA;simp only [laws_markLeafS.l0] at H
   by_cases c3 : x5_1 < (x0_1.length : Int)
   ·rw [if_pos c3] at H;have c3b0 : decide (x5_1 < (x0_1.length : Int)) = true:=decide_eq_true c3;clear c3
    by_cases c4 : 0 ≤ x5_1
    ·rw [if_pos c4] at H;have c4b0 : decide (0 ≤ x5_1) = true:=decide_eq_true c4;clear c4;obtain ⟨y668,hy668⟩ : ∃ y_ : List (S101),y_ = (x0_1.set (x5_1 : Int).toNat (⟨x1_1,(rd_T101 x0_1 x5_1).f1⟩ : S101)):=⟨_,rfl⟩;replace H : ((laws_markText.f k1 (wrap64 (x1_1 + 1))).bind fun t669=>(laws_markLeafS.l0 k1 (y668.set (x5_1 : Int).toNat (⟨(rd_T101 y668 x5_1).f0,t669⟩ : S101)) (wrap64 ((wrap64 (x1_1 + 1)) + 1)) (wrap64 (x5_1 + 1)))) = some (r1,r2):=by first | (rw [hy668];with_reducible exact H) | (have H2_:=(Option.bind_some _ _).symm.trans H;rw [hy668];with_reducible exact H2_) | (have H2_:=(Option.bind_some _ _).symm.trans H;with_reducible exact H2_) | with_reducible exact H | (rw [hy668];exact H) | exact H
     have Ny668:=zMk hy668;clear hy668;replace H:=Option.bind_eq_some_iff.mp H;obtain ⟨t669,A60,H⟩:=H;replace H : (laws_markLeafS.l0 k1 (y668.set (x5_1 : Int).toNat (⟨(rd_T101 y668 x5_1).f0,t669⟩ : S101)) (wrap64 ((wrap64 (x1_1 + 1)) + 1)) (wrap64 (x5_1 + 1))) = some (r1,r2):=H;have A6:=zMk A60;clear A60;obtain ⟨y670,hy670⟩ : ∃ y_ : List (S101),y_ = (y668.set (x5_1 : Int).toNat (⟨(rd_T101 y668 x5_1).f0,t669⟩ : S101)):=⟨_,rfl⟩;replace H : (laws_markLeafS.l0 k1 y670 (wrap64 ((wrap64 (x1_1 + 1)) + 1)) (wrap64 (x5_1 + 1))) = some (r1,r2):=by first | (rw [hy670];with_reducible exact H) | (have H2_:=(Option.bind_some _ _).symm.trans H;rw [hy670];with_reducible exact H2_) | (have H2_:=(Option.bind_some _ _).symm.trans H;with_reducible exact H2_) | with_reducible exact H | (rw [hy670];exact H) | exact H
     have Ny670:=zMk hy670;clear hy670;have H':=zMk H;clear H;obtain ⟨Ao8,co8,eo8⟩:=Kd.R_slice HO_0.out;subst eo8;have p5 : 0 ≤ (x5_1 : Int):=zDe (by first | (with_reducible assumption) | assumption);have q5 : (x5_1 : Int) < ((x0_1.length : Int) : Int):=zDe (by first | (with_reducible assumption) | assumption);obtain ⟨go5,co5,eo5,gb5,gl5,cl5,HG5⟩:=Kd.R_form HO_0.out (by omega)
     (first | cases eo5 | (injection eo5 with ea_ en_ ec_;(first | subst ea_ | (injection ea_ with ea_;subst ea_));subst ec_;clear en_))
     have GB5:=zMk gb5;have GG5:=zMk HG5;clear gb5 gl5 HG5;have HMgo5:=zMk (show (P0_ go5 ∨ w.heap.size ≤ go5) from (HO_0.out.1 _ rfl));obtain ⟨ce5,hcl5,hM5,hcc5,hfr5⟩:=Kd.R_elem HO_0.out z101 (x5_1 : Int) p5 q5;obtain rfl:=k101_openM hM5;have hx5_0 : wr.cell? ⟨go5,(x5_1 : Int).toNat * 2,none⟩ = some (.int .i64 ((rd_T101 x0_1 x5_1).f0)):=hcc5 0 _ rfl;have hx5_1 : wr.cell? ⟨go5,(x5_1 : Int).toNat * 2 + 1,none⟩ = some (.string ((rd_T101 x0_1 x5_1).f1)):=hcc5 1 _ rfl;have hf5_0 : wr.frozen? ⟨go5,(x5_1 : Int).toNat * 2,none⟩ = false:=hfr5 0;have hf5_1 : wr.frozen? ⟨go5,(x5_1 : Int).toNat * 2 + 1,none⟩ = false:=hfr5 1;clear hcl5 hcc5 hfr5 hM5;replace p5:=eq_true p5;replace q5:=eq_true q5;have HX9:=zMk (show Kd.R k101 101 wr w0.heap.size (fun k_=>(P0_ k_ ∨ w.heap.size ≤ k_)) (.slice (some ⟨go5,0,none⟩) x0_1.length co8) x0_1 from (rs HO_0));obtain ⟨ce9,hcl9,hM9,hcc9,hfr9⟩:=Kd.R_elem HX9.out z101 (x5_1 : Int) (zDe (by first | (with_reducible assumption) | assumption)) (by have h_ : (x5_1 : Int) < ((x0_1.length : Int) : Int):=zDe (by first | (with_reducible assumption) | assumption);first | exact h_ | (have e_:=(Kd.R_reads' HO_0.out).1;omega) | simpa using h_);obtain rfl:=k101_openM hM9;have HP9:=Kd.R_seg HX9.out (x5_1 : Int) (zDe (by first | (with_reducible assumption) | assumption)) (by have h_ : (x5_1 : Int) < ((x0_1.length : Int) : Int):=zDe (by first | (with_reducible assumption) | assumption);first | exact h_ | (have e_:=(Kd.R_reads' HO_0.out).1;omega) | simpa using h_) (seg:=[.int .i64 x1_1]) (j:=0) hcl9 hcc9 (show 1 ≤ 2 from by decide) (x':=(⟨x1_1,(rd_T101 x0_1 x5_1).f1⟩ : S101)) (k101_mkM _ _ _ (⟨x1_1,(rd_T101 x0_1 x5_1).f1⟩ : S101) ) (fun _ hk=>hk);have hx9_0:=hcc9 0 _ rfl
     (try simp only [show (k101).sz = 2 from rfl,Nat.mul_one,Nat.add_zero] at hx9_0)
     have hf9_0:=hfr9 0
     (try simp only [show (k101).sz = 2 from rfl,Nat.mul_one,Nat.add_zero] at hf9_0)
     clear hcl9 hcc9 hfr9 hM9;go_wp2_with (first | ((with_reducible refine gate_store (t:=3) (p:=16) rfl ?_);refine store_event (t:=3) (p:=16) (v:=?vo_w10) (w1:=(wr.setCell ⟨go5,(x5_1 : Int).toNat * 2,none⟩ (.int .i64 x1_1))) ?hg ?ho ?hn ?hr ?_;(case ho=>rfl);(case hg=>rfl);(case hn=>rfl);(case hr=>first | (go_simp;done) | (go_simp;rfl));intro w10 hw;have hg : wr.grownBy w10 (some go5):=(by rw [hw];exact HP9.2);have hp_ : Kd.R k101 101 w10 w0.heap.size (fun k_=>(P0_ k_ ∨ w.heap.size ≤ k_)) (.slice (some ⟨go5,0,none⟩) x0_1.length co8) y668:=(by rw [hw,Ny668.out];exact HP9.1);clear HP9;have n0_:=zMk (hp_);have n1_:=zMk ((by rw [hw];exact below_set (HB.out) GB5.out : Below w0.heap.size w0 w10));have n2_:=zMk (Kept.of_grown (S:=(fun k_=>P0_ k_)) hg (by repeat (first | (with_reducible first | exact HK.out | apply Kept.alloc | apply Kept.drewN | apply Kept.drew) | exact HK.out)) (fun k_ e_=>(HO_0.out.1 k_ e_)));clear HO_0;clear HB;clear HK;have HO_0:=n0_;have HB:=n1_;have HK:=n2_;clear n0_ n1_ n2_;clear hg hw hp_) | ((with_reducible refine gate_callee (f:=66) rfl ?_);refine goesL_ (some 22) rfl rfl Try.func66 (by kernel_rfl) rfl #[.int .i64 (wrap64 (x1_1 + 1))] rfl (by (try simp only [List.map_toArray,List.map_cons,List.map_nil]);first | done | rfl | (simp only [List.length_drop,List.length_take];rfl)) ?_;(with_reducible refine (laws_markText.calls k1 (wrap64 (x1_1 + 1)) t669 _ A6.out).mono ?_);rintro e w11 ⟨rfl,hb⟩;refine ⟨_,rfl,?_⟩;have n0_:=zMk (Kd.R_below (rs HO_0) hb);have n1_:=zMk (Kept.below (S:=(fun k_=>P0_ k_)) (by repeat (first | (with_reducible first | exact HK.out | apply Kept.alloc | apply Kept.drewN | apply Kept.drew) | exact HK.out)) hb);have n2_:=zMk (below_step (hs HB) hb);clear HO_0;clear HK;clear HB;have HO_0:=n0_;have HK:=n1_;have HB:=n2_;clear n0_ n1_ n2_;(try clear hb);(try clear hb2);(try clear hk);(try clear hi);have p7 : 0 ≤ (x5_1 : Int):=zDe (by first | (with_reducible assumption) | assumption);have q7 : (x5_1 : Int) < ((x0_1.length : Int) : Int):=zDe (by first | (with_reducible assumption) | assumption);obtain ⟨ce7,hcl7,hM7,hcc7,hfr7⟩:=Kd.R_elem HO_0.out z101 (x5_1 : Int) p7 q7;obtain rfl:=k101_openM hM7;have hx7_0 : w11.cell? ⟨go5,(x5_1 : Int).toNat * 2,none⟩ = some (.int .i64 ((rd_T101 y668 x5_1).f0)):=hcc7 0 _ rfl;have hx7_1 : w11.cell? ⟨go5,(x5_1 : Int).toNat * 2 + 1,none⟩ = some (.string ((rd_T101 y668 x5_1).f1)):=hcc7 1 _ rfl;have hf7_0 : w11.frozen? ⟨go5,(x5_1 : Int).toNat * 2,none⟩ = false:=hfr7 0;have hf7_1 : w11.frozen? ⟨go5,(x5_1 : Int).toNat * 2 + 1,none⟩ = false:=hfr7 1;clear hcl7 hcc7 hfr7 hM7;replace p7:=eq_true p7;replace q7:=eq_true q7;have HX12:=zMk (show Kd.R k101 101 w11 w0.heap.size (fun k_=>(P0_ k_ ∨ w.heap.size ≤ k_)) (.slice (some ⟨go5,0,none⟩) x0_1.length co8) y668 from (rs HO_0));obtain ⟨ce12,hcl12,hM12,hcc12,hfr12⟩:=Kd.R_elem HX12.out z101 (x5_1 : Int) (zDe (by first | (with_reducible assumption) | assumption)) (by have h_ : (x5_1 : Int) < ((x0_1.length : Int) : Int):=zDe (by first | (with_reducible assumption) | assumption);first | exact h_ | (have e_:=(Kd.R_reads' HO_0.out).1;omega) | simpa using h_);obtain rfl:=k101_openM hM12;have HP12:=Kd.R_seg HX12.out (x5_1 : Int) (zDe (by first | (with_reducible assumption) | assumption)) (by have h_ : (x5_1 : Int) < ((x0_1.length : Int) : Int):=zDe (by first | (with_reducible assumption) | assumption);first | exact h_ | (have e_:=(Kd.R_reads' HO_0.out).1;omega) | simpa using h_) (seg:=[.string t669]) (j:=1) hcl12 hcc12 (show 2 ≤ 2 from by decide) (x':=(⟨(rd_T101 y668 x5_1).f0,t669⟩ : S101)) (k101_mkM _ _ _ (⟨(rd_T101 y668 x5_1).f0,t669⟩ : S101) ) (fun _ hk=>hk);have hx12_1:=hcc12 1 _ rfl;(try simp only [show (k101).sz = 2 from rfl,Nat.mul_one,Nat.add_zero] at hx12_1);have hf12_1:=hfr12 1;(try simp only [show (k101).sz = 2 from rfl,Nat.mul_one,Nat.add_zero] at hf12_1);clear hcl12 hcc12 hfr12 hM12) | ((with_reducible refine gate_store (t:=9) (p:=24) rfl ?_);refine store_event (t:=9) (p:=24) (v:=?vo_w13) (w1:=(w11.setCell ⟨go5,(x5_1 : Int).toNat * 2 + 1,none⟩ (.string t669))) ?hg ?ho ?hn ?hr ?_;(case ho=>rfl);(case hg=>rfl);(case hn=>rfl);(case hr=>first | (go_simp;done) | (go_simp;rfl));intro w13 hw;have hg : w11.grownBy w13 (some go5):=(by rw [hw];exact HP12.2);have hp_ : Kd.R k101 101 w13 w0.heap.size (fun k_=>(P0_ k_ ∨ w.heap.size ≤ k_)) (.slice (some ⟨go5,0,none⟩) x0_1.length co8) y670:=(by rw [hw,Ny670.out];exact HP12.1);clear HP12;have n0_:=zMk (hp_);have n1_:=zMk ((by rw [hw];exact below_set (HB.out) GB5.out : Below w0.heap.size w0 w13));have n2_:=zMk (Kept.of_grown (S:=(fun k_=>P0_ k_)) hg (by repeat (first | (with_reducible first | exact HK.out | apply Kept.alloc | apply Kept.drewN | apply Kept.drew) | exact HK.out)) (fun k_ e_=>(HO_0.out.1 k_ e_)));clear HO_0;clear HB;clear HK;have HO_0:=n0_;have HB:=n1_;have HK:=n2_;clear n0_ n1_ n2_;clear hg hw hp_));go_roundg k1;case measure=>have:=HK1.out;omega
     case rel=>exact ⟨(y670),(wrap64 ((wrap64 (x1_1 + 1)) + 1)),(wrap64 (x5_1 + 1)),(by first | rfl | (simp;done) | (simp [*];done)),(by first | rfl | (simp;done) | (simp [*];done)),H',⟨by have:=HK1.out;omega⟩,⟨rs HO_0⟩,⟨by repeat (first | (with_reducible first | exact HK.out | apply Kept.alloc | apply Kept.drewN | apply Kept.drew) | exact HK.out)⟩,⟨hs HB⟩⟩
    rw [if_neg c4] at H;exact absurd H (by simp)
   rw [if_neg c3] at H;have c3b0 : decide (x5_1 < (x0_1.length : Int)) = false:=decide_eq_false c3;clear c3;simp only [Option.some.injEq,Prod.mk.injEq] at H;obtain ⟨rfl,rfl⟩:=H;obtain ⟨Ao14,co14,eo14⟩:=Kd.R_slice HO_0.out;subst eo14
   go_wp2
   go_ret
   exact ⟨by first | rfl | (simp [errW_none,errW_some] <;> rfl) | (simp [*,errW_none,errW_some] <;> rfl),rs HO_0,hs HB,by repeat (first | (with_reducible first | exact HK.out | apply Kept.alloc | apply Kept.drewN | apply Kept.drew) | exact HK.out)⟩
end Go.Proofs.Ytklkhnomnanpoaa.PK

namespace Go.Proofs.Ytklkhnomnanpoaa.PK
open Go.RowKit Go.Proofs.YtklkhnomnanpoaaW.PrintWords Go.Proofs.YtklkhnomnanpoaaW.PrintLast Go.Proofs.YtklkhnomnanpoaaW.PrintMore
def laws_markBlockS.l0 : Nat → List S83 → Int → Int → Option (Int × (List S83))
 | 0,_,_,_=>none
 | k + 1,x0,x1,x5=>if x5 < (x0.length : Int) then (if 0 ≤ x5 then ((some ((x0.set (x5 : Int).toNat (⟨(Int.tmod x1 3 == 0),(rd_T83 x0 x5).f1,(rd_T83 x0 x5).f2⟩ : S83)) : List S83)).bind fun y1=>((some ((y1.set (x5 : Int).toNat (⟨(rd_T83 y1 x5).f0,wrap64 (x1 + 1),(rd_T83 y1 x5).f2⟩ : S83)) : List S83)).bind fun y2=>((laws_markLeafS.f k (rd_T83 y2 x5).f2 (wrap64 ((wrap64 (x1 + 1)) + 1))).bind fun b_=>(laws_markBlockS.l0 k (y2.set (x5 : Int).toNat (⟨(rd_T83 y2 x5).f0,(rd_T83 y2 x5).f1,b_.2⟩ : S83)) b_.1 (wrap64 (x5 + 1)))))) else (none)) else (some (x1,x0))
def laws_markBlockS.f (k : Nat) (l0 : List S83) (a1 : Int) : Option (Int × (List S83)):=laws_markBlockS.l0 k l0 a1 0
theorem laws_markBlockS.mono_l : ∀ k,∀ y0 y1 y2,LeO (laws_markBlockS.l0 k y0 y1 y2) (laws_markBlockS.l0 (k + 1) y0 y1 y2)
 | 0=>fun _ _ _ r h=>by simp [laws_markBlockS.l0] at h
 | k + 1=>by
  have ih0:=laws_markBlockS.mono_l k;intro y0 y1 y2;unfold laws_markBlockS.l0;refine LeO.ite (LeO.ite ?_ (LeO.none _)) (LeO.refl _)
  repeat' first
   | (with_reducible exact ih0 _ _ _)
   | (with_reducible exact laws_markLeafS.mono _ _ _)
   | (with_reducible exact LeO.refl _)
   | (with_reducible refine LeO.bind ?_ (fun _=>?_))
theorem laws_markBlockS.mono : ∀ a0 a1 k,LeO (laws_markBlockS.f k a0 a1) (laws_markBlockS.f (k + 1) a0 a1):=fun a0 a1 k=>laws_markBlockS.mono_l k _ _ _
set_option maxHeartbeats 8000000 in
set_option maxRecDepth 100000 in
theorem laws_markBlockS.calls (k : Nat) (P0_ : Nat → Prop) (u9000_ : Value) (l0 : List S83) (a1 : Int) (r1 : Int) (r2 : List S83) (w0 w : World) (hB : Below w0.heap.size w0 w) (ho0 : Kd.S k83 83 w w0.heap.size P0_ u9000_ l0) (h : laws_markBlockS.f k l0 a1 = some (r1,r2)) :
  Calls Try.prog 61 #[u9000_,.int .i64 a1] w fun e w'=>e = .returned (.int .i64 r1) ∧ Kd.S k83 83 w' w0.heap.size (fun k_=>(P0_ k_ ∨ w.heap.size ≤ k_)) u9000_ r2 ∧ Below w0.heap.size w0 w' ∧ Kept w w' (fun k_=>P0_ k_):=by
 have HO0:=zMk (show Kd.S k83 83 w w0.heap.size (fun k_=>(P0_ k_ ∨ w.heap.size ≤ k_)) u9000_ l0 from Kd.S_mono ho0 (fun k_ hk=>(.inl hk)));have HK:=zMk (Kept.refl w (fun k_=>P0_ k_));have HB:=zMk hB;clear hB ho0;have H':=zMk (show laws_markBlockS.l0 k l0 a1 0 = some (r1,r2) from h);clear h
 go_enter Try.func61,Try.ntmps61
 go_wp2
 go_loopg [1,5] k (fun kq v1 v5 w'=>∃ (x0_1 : List S83) (x1_1 : Int) (x5_1 : Int),v1 = .int .i64 x1_1 ∧ v5 = .int .i64 x5_1 ∧ Aside0 (laws_markBlockS.l0 kq x0_1 x1_1 x5_1 = some (r1,r2)) ∧ Aside0 (kq ≤ k) ∧ Aside0 (Kd.S k83 83 w' w0.heap.size (fun k_=>(P0_ k_ ∨ w.heap.size ≤ k_)) u9000_ x0_1) ∧ Aside0 (Kept w w' (fun k_=>P0_ k_)) ∧ Aside0 (Below w0.heap.size w0 w'));case atStart=>exact ⟨l0,a1,0,rfl,rfl,H',⟨Nat.le_refl _⟩,HO0,HK,HB⟩
 case round =>
  clear H';obtain ⟨x0_1,x1_1,x5_1,rfl,rfl,HA,HK1,HO_0,HK,HB⟩:=hrel;cases gk with
  | zero=>exact absurd HA.out (by simp [laws_markBlockS.l0])
  | succ k1 =>
   have H:=HA.out;clear HA;simp only [laws_markBlockS.l0] at H
   by_cases c3 : x5_1 < (x0_1.length : Int)
   ·rw [if_pos c3] at H;have c3b0 : decide (x5_1 < (x0_1.length : Int)) = true:=decide_eq_true c3
    by_cases c4 : 0 ≤ x5_1
    ·rw [if_pos c4] at H;have c4b0 : decide (0 ≤ x5_1) = true:=decide_eq_true c4;obtain ⟨y1,hy1⟩ : ∃ y_ : List S83,y_ = (x0_1.set (x5_1 : Int).toNat (⟨(Int.tmod x1_1 3 == 0),(rd_T83 x0_1 x5_1).f1,(rd_T83 x0_1 x5_1).f2⟩ : S83)):=⟨_,rfl⟩;replace H : ((some ((y1.set (x5_1 : Int).toNat (⟨(rd_T83 y1 x5_1).f0,wrap64 (x1_1 + 1),(rd_T83 y1 x5_1).f2⟩ : S83)) : List S83)).bind fun y2=>((laws_markLeafS.f k1 (rd_T83 y2 x5_1).f2 (wrap64 ((wrap64 (x1_1 + 1)) + 1))).bind fun b_=>(laws_markBlockS.l0 k1 (y2.set (x5_1 : Int).toNat (⟨(rd_T83 y2 x5_1).f0,(rd_T83 y2 x5_1).f1,b_.2⟩ : S83)) b_.1 (wrap64 (x5_1 + 1))))) = some (r1,r2):=by rw [hy1];exact H
     have Ny1:=zMk hy1;clear hy1;obtain ⟨y2,hy2⟩ : ∃ y_ : List S83,y_ = (y1.set (x5_1 : Int).toNat (⟨(rd_T83 y1 x5_1).f0,wrap64 (x1_1 + 1),(rd_T83 y1 x5_1).f2⟩ : S83)):=⟨_,rfl⟩;replace H : ((laws_markLeafS.f k1 (rd_T83 y2 x5_1).f2 (wrap64 ((wrap64 (x1_1 + 1)) + 1))).bind fun b_=>(laws_markBlockS.l0 k1 (y2.set (x5_1 : Int).toNat (⟨(rd_T83 y2 x5_1).f0,(rd_T83 y2 x5_1).f1,b_.2⟩ : S83)) b_.1 (wrap64 (x5_1 + 1)))) = some (r1,r2):=by rw [hy2];exact H
     have Ny2:=zMk hy2;clear hy2;obtain ⟨⟨t_,l_⟩,A0_,H⟩:=Option.bind_eq_some_iff.mp H;have A1:=zMk A0_;clear A0_;have H':=zMk (show laws_markBlockS.l0 k1 (y2.set (x5_1 : Int).toNat (⟨(rd_T83 y2 x5_1).f0,(rd_T83 y2 x5_1).f1,l_⟩ : S83)) t_ (wrap64 (x5_1 + 1)) = some (r1,r2) from H);clear H;obtain ⟨go5,co5,eo5,gb5,_,_⟩:=Kd.S_form HO_0.out (by omega);subst eo5;have GB5:=zMk gb5;clear gb5;have HM5:=zMk (show (P0_ go5 ∨ w.heap.size ≤ go5) from ((Kd.S_R HO_0.out).1 _ rfl));have p5:=eq_true c4;have q5:=eq_true c3;have P5:=zMk c4;have Q5:=zMk c3;clear c3 c4;obtain ⟨okia0,cea0,hcla0,hMa0,hcca0,hokia0,hHa0⟩:=Kd.S_lend HO_0.out z83 (x5_1 : Int) P5.out Q5.out;have hfra0:=(Kd.R_elem (Kd.S_R HO_0.out) z83 (x5_1 : Int) P5.out Q5.out).choose_spec.2.2.2;obtain ⟨vea0,rfl,gea0⟩:=k83_openM hMa0;have hxa0_0 : wr.cell? ⟨go5,(x5_1 : Int).toNat * 3,none⟩ = some (.bool (rd_T83 x0_1 x5_1).f0):=hcca0 0 _ rfl;have hfa0_0 : wr.frozen? ⟨go5,(x5_1 : Int).toNat * 3,none⟩ = false:=hfra0 0;have hxa0_1 : wr.cell? ⟨go5,(x5_1 : Int).toNat * 3 + 1,none⟩ = some (.int .i64 (rd_T83 x0_1 x5_1).f1):=hcca0 1 _ rfl;have hfa0_1 : wr.frozen? ⟨go5,(x5_1 : Int).toNat * 3 + 1,none⟩ = false:=hfra0 1;have hxa0_2 : wr.cell? ⟨go5,(x5_1 : Int).toNat * 3 + 2,none⟩ = some vea0:=hcca0 2 _ rfl;have hfa0_2 : wr.frozen? ⟨go5,(x5_1 : Int).toNat * 3 + 2,none⟩ = false:=hfra0 2;clear hcla0 hMa0 hcca0 hfra0;clear hokia0 hHa0;have HP:=Kd.S_field HO_0.out z83 (x5_1 : Int) P5.out Q5.out 0 (.bool (Int.tmod x1_1 3 == 0)) (show 1 ≤ 3 from by decide) (x':=(⟨(Int.tmod x1_1 3 == 0),(rd_T83 x0_1 x5_1).f1,(rd_T83 x0_1 x5_1).f2⟩ : S83)) (fun okp c hM_=>by obtain ⟨v_,rfl,g_⟩:=k83_openM hM_;exact k83_mkM _ _ _ _ g_);have HP':=zMk HP;clear HP;go_wp2_with (first | ((with_reducible refine gate_store (t:=4) (p:=18) rfl ?_);refine store_event (t:=4) (p:=18) (v:=?vo0_) (w1:=(wr.setCell ⟨go5,(x5_1 : Int).toNat * 3,none⟩ (.bool (Int.tmod x1_1 3 == 0)))) ?hg ?ho ?hn ?hr ?_;(case ho=>rfl);(case hg=>rfl);(case hn=>rfl);(case hr=>first | (go_simp;done) | (go_simp;rfl));intro ws1 hw;have hg : wr.grownBy ws1 (some go5):=(by rw [hw];exact HP'.out.2);have n0_:=zMk (show Kd.S k83 83 ws1 w0.heap.size (fun k_=>(P0_ k_ ∨ w.heap.size ≤ k_)) (.slice (some ⟨go5,0,none⟩) x0_1.length co5) y1 from (by rw [hw,Ny1.out];exact HP'.out.1));have n1_:=zMk (show Below w0.heap.size w0 ws1 from (by rw [hw];exact below_set HB.out GB5.out));have n2_:=zMk (Kept.of_grown (S:=(fun k_=>P0_ k_)) hg HK.out (fun k_ e_=>(Kd.S_R HO_0.out).1 k_ e_));clear HO_0 HB HK HP';have HO_0:=n0_;have HB:=n1_;have HK:=n2_;clear n0_ n1_ n2_ hg hw;clear hxa0_0 hfa0_0 hxa0_1 hfa0_1 hxa0_2 hfa0_2;obtain ⟨okia1,cea1,hcla1,hMa1,hcca1,hokia1,hHa1⟩:=Kd.S_lend HO_0.out z83 (x5_1 : Int) P5.out Q5.out;have hfra1:=(Kd.R_elem (Kd.S_R HO_0.out) z83 (x5_1 : Int) P5.out Q5.out).choose_spec.2.2.2;obtain ⟨vea1,rfl,gea1⟩:=k83_openM hMa1;have hxa1_0 : ws1.cell? ⟨go5,(x5_1 : Int).toNat * 3,none⟩ = some (.bool (rd_T83 y1 x5_1).f0):=hcca1 0 _ rfl;have hfa1_0 : ws1.frozen? ⟨go5,(x5_1 : Int).toNat * 3,none⟩ = false:=hfra1 0;have hxa1_1 : ws1.cell? ⟨go5,(x5_1 : Int).toNat * 3 + 1,none⟩ = some (.int .i64 (rd_T83 y1 x5_1).f1):=hcca1 1 _ rfl;have hfa1_1 : ws1.frozen? ⟨go5,(x5_1 : Int).toNat * 3 + 1,none⟩ = false:=hfra1 1;have hxa1_2 : ws1.cell? ⟨go5,(x5_1 : Int).toNat * 3 + 2,none⟩ = some vea1:=hcca1 2 _ rfl;have hfa1_2 : ws1.frozen? ⟨go5,(x5_1 : Int).toNat * 3 + 2,none⟩ = false:=hfra1 2;clear hcla1 hMa1 hcca1 hfra1;clear hokia1 hHa1;have HP:=Kd.S_field HO_0.out z83 (x5_1 : Int) P5.out Q5.out 1 (.int .i64 (wrap64 (x1_1 + 1))) (show 2 ≤ 3 from by decide) (x':=(⟨(rd_T83 y1 x5_1).f0,wrap64 (x1_1 + 1),(rd_T83 y1 x5_1).f2⟩ : S83)) (fun okp c hM_=>by obtain ⟨v_,rfl,g_⟩:=k83_openM hM_;exact k83_mkM _ _ _ _ g_);have HP':=zMk HP;clear HP) | ((with_reducible refine gate_store (t:=3) (p:=25) rfl ?_);refine store_event (t:=3) (p:=25) (v:=?vo1_) (w1:=(ws1.setCell ⟨go5,(x5_1 : Int).toNat * 3 + 1,none⟩ (.int .i64 (wrap64 (x1_1 + 1))))) ?hg ?ho ?hn ?hr ?_;(case ho=>rfl);(case hg=>rfl);(case hn=>rfl);(case hr=>first | (go_simp;done) | (go_simp;rfl));intro ws2 hw;have hg : ws1.grownBy ws2 (some go5):=(by rw [hw];exact HP'.out.2);have n0_:=zMk (show Kd.S k83 83 ws2 w0.heap.size (fun k_=>(P0_ k_ ∨ w.heap.size ≤ k_)) (.slice (some ⟨go5,0,none⟩) x0_1.length co5) y2 from (by rw [hw,Ny2.out];exact HP'.out.1));have n1_:=zMk (show Below w0.heap.size w0 ws2 from (by rw [hw];exact below_set HB.out GB5.out));have n2_:=zMk (Kept.of_grown (S:=(fun k_=>P0_ k_)) hg HK.out (fun k_ e_=>(Kd.S_R HO_0.out).1 k_ e_));clear HO_0 HB HK HP';have HO_0:=n0_;have HB:=n1_;have HK:=n2_;clear n0_ n1_ n2_ hg hw;clear hxa1_0 hfa1_0 hxa1_1 hfa1_1 hxa1_2 hfa1_2;obtain ⟨okia2,cea2,hcla2,hMa2,hcca2,hokia2,hHa2⟩:=Kd.S_lend HO_0.out z83 (x5_1 : Int) P5.out Q5.out;have hfra2:=(Kd.R_elem (Kd.S_R HO_0.out) z83 (x5_1 : Int) P5.out Q5.out).choose_spec.2.2.2;obtain ⟨vea2,rfl,gea2⟩:=k83_openM hMa2;have hxa2_0 : ws2.cell? ⟨go5,(x5_1 : Int).toNat * 3,none⟩ = some (.bool (rd_T83 y2 x5_1).f0):=hcca2 0 _ rfl;have hfa2_0 : ws2.frozen? ⟨go5,(x5_1 : Int).toNat * 3,none⟩ = false:=hfra2 0;have hxa2_1 : ws2.cell? ⟨go5,(x5_1 : Int).toNat * 3 + 1,none⟩ = some (.int .i64 (rd_T83 y2 x5_1).f1):=hcca2 1 _ rfl;have hfa2_1 : ws2.frozen? ⟨go5,(x5_1 : Int).toNat * 3 + 1,none⟩ = false:=hfra2 1;have hxa2_2 : ws2.cell? ⟨go5,(x5_1 : Int).toNat * 3 + 2,none⟩ = some vea2:=hcca2 2 _ rfl;have hfa2_2 : ws2.frozen? ⟨go5,(x5_1 : Int).toNat * 3 + 2,none⟩ = false:=hfra2 2;clear hcla2 hMa2 hcca2 hfra2;have HOK:=zMk hokia2;have HH:=zMk hHa2;have HG:=zMk (show Kd.R k101 101 ws2 w0.heap.size okia2 vea2 (rd_T83 y2 x5_1).f2 from gea2);clear hokia2 hHa2 gea2) | ((go_at_call 91);(with_reducible refine (laws_markLeafS.calls k1 okia2 _ _ _ t_ l_ w0 _ HB.out HG.out A1.out).mono ?_);rintro e wz ⟨rfl,hR_,hB_,hK_⟩;have n0_:=zMk (show Kd.S k83 83 wz w0.heap.size (fun k_=>(P0_ k_ ∨ w.heap.size ≤ k_)) (.slice (some ⟨go5,0,none⟩) x0_1.length co5) (y2.set (x5_1 : Int).toNat (⟨(rd_T83 y2 x5_1).f0,(rd_T83 y2 x5_1).f1,l_⟩ : S83)) from Kd.S_called HH.out hK_ (k83_mkM _ _ _ (⟨(rd_T83 y2 x5_1).f0,(rd_T83 y2 x5_1).f1,l_⟩ : S83) hR_) (fun k_ hk=>.inr (Nat.le_trans HK.out.1 hk)));have n1_:=zMk hB_;have n2_:=zMk (Kept.then_ HK.out hK_ (fun k_ hk=>(HOK.out k_ hk).1));clear HO_0 HB HK;have HO_0:=n0_;have HB:=n1_;have HK:=n2_;clear n0_ n1_ n2_ hR_ hB_ hK_ HH HG HOK));go_roundg k1;case measure=>have:=HK1.out;omega
     case rel=>exact ⟨_,_,_,rfl,rfl,H',⟨by have:=HK1.out;omega⟩,HO_0,HK,HB⟩
    rw [if_neg c4] at H;exact absurd H (by simp)
   rw [if_neg c3] at H;have c3b0 : decide (x5_1 < (x0_1.length : Int)) = false:=decide_eq_false c3;clear c3;simp only [Option.some.injEq,Prod.mk.injEq] at H;obtain ⟨rfl,rfl⟩:=H;obtain ⟨Ao18,co18,eo18⟩:=Kd.S_slice HO_0.out;subst eo18
   go_wp2
   go_ret
   exact ⟨rfl,HO_0.out,HB.out,HK.out⟩
end Go.Proofs.Ytklkhnomnanpoaa.PK

namespace Go.Proofs.Ytklkhnomnanpoaa.PK
open Go.RowKit Go.Proofs.YtklkhnomnanpoaaW.PrintWords Go.Proofs.YtklkhnomnanpoaaW.PrintLast Go.Proofs.YtklkhnomnanpoaaW.PrintMore
attribute [local go_sem] max2_int min2_int max_two min_two max_three min_three max_four min_four
def laws_markFlash.f (k : Nat) (l0_0 : List (S83)) (a1 : Int) : Option (Int × (List (S83))):=((laws_markBlockS.f k l0_0 a1).bind fun b0=>(some (b0.1,b0.2)))
theorem laws_markFlash.mono : ∀ a0 a1 k,LeO (laws_markFlash.f k a0 a1) (laws_markFlash.f (k + 1) a0 a1):=by
 intro a0 a1 k;unfold laws_markFlash.f
 repeat' first
   | (with_reducible exact laws_markBlockS.mono _ _ _)
   | (with_reducible exact LeO.refl _)
   | (with_reducible exact LeO.none _)
   | (with_reducible refine LeO.ite ?_ ?_)
   | (with_reducible refine LeO.bind ?_ (fun _=>?_))
   | exact laws_markBlockS.mono _ _ _
   | exact LeO.none _
   | refine LeO.ite ?_ ?_
   | refine LeO.bind ?_ (fun _=>?_)
set_option maxHeartbeats 8000000 in
set_option maxRecDepth 100000 in
theorem laws_markFlash.calls (k : Nat) (P0_0_ : Nat → Prop) (u0_0_ : Value) (l0_0 : List (S83)) (a1 : Int) (r1 : Int) (r2 : List (S83)) (w0 w : World) (hB : Below w0.heap.size w0 w) (ho0_0 : Kd.S k83 83 w w0.heap.size P0_0_ u0_0_ l0_0) (h : laws_markFlash.f k l0_0 a1 = some (r1,r2)) :
  Calls Try.prog 24 #[.agg #[u0_0_],.int .i64 a1] w fun e w'=>e = .returned (.int .i64 r1) ∧ Kd.S k83 83 w' w0.heap.size (fun k_=>(P0_0_ k_ ∨ w.heap.size ≤ k_)) u0_0_ r2 ∧ Below w0.heap.size w0 w' ∧ Kept w w' (fun k_=>P0_0_ k_):=by
 have HZ0_0:=zMk (Kd.S_mono (ok':=fun k_=>(P0_0_ k_ ∧ k_ < w.heap.size)) (Kd.S_bound ho0_0) (fun k_ hk_=>⟨hk_.1,hk_.2.2.1⟩));clear ho0_0;have HB:=zMk hB;clear hB;have HK:=zMk (Kept.refl w (fun k_=>P0_0_ k_));have HL:=zMk (Nat.le_refl w.heap.size);have H : ((laws_markBlockS.f k l0_0 a1).bind fun b0=>(some (b0.1,b0.2))) = some (r1,r2):=h;clear h;replace H:=Option.bind_eq_some_iff.mp H;obtain ⟨⟨t3,t4⟩,Fa00,H⟩:=H;replace H : (some (t3,t4)) = some (r1,r2):=H;have Fa0:=zMk Fa00;clear Fa00;have H2:=Option.some.inj H;simp only [Prod.mk.injEq] at H2;obtain ⟨rfl,rfl⟩:=H2
 go_enter Try.func24,Try.ntmps24
 go_wp2_with (first | ((with_reducible refine gate_dst (N:=2) rfl ?_);refine box_event ?hg (N:=2) ?hd (cs:=#[u0_0_]) (t:=52) ?hr ?_;(case hd=>rfl);(case hg=>rfl);(case hr=>first | (go_simp;done) | (go_simp;rfl));intro gb1 hg w1 hbox hb;replace HZ0_0:=zMk (Kd.S_below HZ0_0.out hb);have GBK1:=zMk (show gb1 = w.heap.size ∧ gb1 < w1.heap.size from ⟨hg,blk_lt hbox⟩);have GW1:=zMk (show w0.heap.size ≤ gb1 by have q_:=below_size HB.out;rw [hg];exact q_);have BK1:=zMk hbox;replace HK:=zMk (Kept.below HK.out hb);replace HB:=zMk (below_then HB.out HB.out.size hb);replace HL:=zMk (And.intro HL.out (below_size hb));clear hb hbox hg;have hcz2 : w1.cell? ⟨gb1,0,none⟩ = some (u0_0_):=(zCl BK1.out 0).trans rfl;have hfz3:=zFr BK1.out 0) | ((with_reducible refine gate_callee (f:=61) rfl ?_);refine goesL_ (some 8) rfl rfl Try.func61 (by kernel_rfl) rfl #[u0_0_,.int .i64 a1] rfl (by (try simp only [List.map_toArray,List.map_cons,List.map_nil]);first | done | rfl | (simp only [List.length_drop,List.length_take];rfl)) ?_;(with_reducible refine (laws_markBlockS.calls k (fun k_=>(P0_0_ k_ ∧ k_ < w.heap.size)) _ l0_0 a1 t3 t4 w0 _ HB.out HZ0_0.out Fa0.out).mono ?_);rintro e w4 ⟨rfl,hy0,hb0,hk⟩;refine ⟨_,rfl,?_⟩;have ny0_:=zMk (Kd.S_mono (ok':=fun k_=>((P0_0_ k_ ∧ k_ < w.heap.size) ∨ (w1.heap.size ≤ k_ ∧ k_ < w4.heap.size))) (Kd.S_bound hy0) (fun k_ hk_=>hk_.1.imp id (fun h_=>⟨h_,hk_.2.2.1⟩)));replace BK1:=zMk (blk_kept BK1.out hk (fun hs_=>by have q_:=HL.out;have g_:=GBK1.out;have hs2_ : (P0_0_ gb1 ∧ gb1 < w.heap.size):=hs_;omega));replace HZ0_0:=ny0_;clear ny0_;replace HK:=zMk (Kept.then_ HK.out hk (fun k_ hs_=>by have q_:=HL.out;have h_ : (P0_0_ k_ ∧ k_ < w.heap.size):=hs_;first | (first | exact .inl h_.1 | exact .inl (.inl h_.1) | exact .inl (.inr h_.1) | exact .inr (by omega)) | (rcases h_ with h_ | h_ <;> first | exact .inl h_.1 | exact .inl (.inl h_.1) | exact .inl (.inr h_.1) | exact .inr (by omega))));replace HB:=zMk hb0;replace HL:=zMk (And.intro HL.out hk.1);clear hb0 hk hy0;clear hcz2 hfz3;have hcz5 : w4.cell? ⟨gb1,0,none⟩ = some (u0_0_):=(zCl BK1.out 0).trans rfl;have hfz6:=zFr BK1.out 0))
 go_ret
 exact ⟨rfl,Kd.S_mono (ok':=fun k_=>(P0_0_ k_ ∨ w.heap.size ≤ k_)) HZ0_0.out (fun k_ hk_=>by have q_:=HL.out;have h_ : ((P0_0_ k_ ∧ k_ < w.heap.size) ∨ (w1.heap.size ≤ k_ ∧ k_ < w4.heap.size)):=hk_;first | (first | exact .inl h_.1 | exact .inl (.inl h_.1) | exact .inl (.inr h_.1) | exact .inr (by omega)) | (rcases h_ with h_ | h_ <;> first | exact .inl h_.1 | exact .inl (.inl h_.1) | exact .inl (.inr h_.1) | exact .inr (by omega))),HB.out,HK.out⟩
def laws_eqLeaf.f (a0_0 : Int) (a0_1 : ByteArray) (a1_0 : Int) (a1_1 : ByteArray) : Option (Bool):=if a0_0 = a1_0 then (if a0_1.toList = a1_1.toList then (some true) else (some false)) else (some false)
set_option maxHeartbeats 8000000 in
set_option maxRecDepth 100000 in
theorem laws_eqLeaf.calls (a0_0 : Int) (a0_1 : ByteArray) (a1_0 : Int) (a1_1 : ByteArray) (r : Bool) (w : World) (h : laws_eqLeaf.f a0_0 a0_1 a1_0 a1_1 = some r) :
  Calls Try.prog 137 #[.agg #[.int .i64 a0_0,.string a0_1],.agg #[.int .i64 a1_0,.string a1_1]] w fun e w'=>e = .returned (.bool r) ∧ Below w.heap.size w w':=by
 have hu101:=Try.underlying101;have HB:=zMk (Below.refl w.heap.size w);have H : (if a0_0 = a1_0 then (if a0_1.toList = a1_1.toList then (some true) else (some false)) else (some false)) = some r:=h;clear h
 go_enter Try.func137,Try.ntmps137
 go_upto_if 9 with (first | ((with_reducible refine gate_dst (N:=2) rfl ?_);refine box_event ?hg (N:=2) ?hd (cs:=#[.int .i64 a0_0,.string a0_1]) (t:=101) ?hr ?_;(case hd=>rfl);(case hg=>rfl);(case hr=>first | (go_simp;done) | (go_simp;rfl));intro gb651 hg w5 hbox hb;have n0_:=zMk (below_step (hs HB) hb);have n1_:=zMk (hbox);have n2_:=zMk ((by rw [hg];exact (below_size (hs HB)) : w.heap.size ≤ gb651));have n3_:=zMk ((by rw [hg];exact (below_size (hs HB)) : w.heap.size ≤ gb651));clear HB;have HB:=n0_;have BK651:=n1_;have GW651:=n2_;have GE651:=n3_;clear n0_ n1_ n2_ n3_;clear hb hbox hg) | ((with_reducible refine gate_dst (N:=3) rfl ?_);refine box_event ?hg (N:=3) ?hd (cs:=#[.int .i64 a1_0,.string a1_1]) (t:=101) ?hr ?_;(case hd=>rfl);(case hg=>rfl);(case hr=>first | (go_simp;done) | (go_simp;rfl));intro gb652 hg w6 hbox hb;have n0_:=zMk (blk_below (g:=gb651) (o:=.cells #[.int .i64 a0_0,.string a0_1] 101 (0,0)) (bs BK651) hb);have n1_:=zMk (below_step (hs1 HB GE651) hb);have n2_:=zMk (hbox);have n3_:=zMk ((by rw [hg];exact (below_size (hs1 HB GE651)) : w.heap.size ≤ gb652));have n4_:=zMk ((by rw [hg];exact (below_size (hs1 HB GE651)) : w.heap.size ≤ gb652));have n5_:=zMk ((by rw [hg];exact Nat.ne_of_lt (blk_lt (g:=gb651) (o:=.cells #[.int .i64 a0_0,.string a0_1] 101 (0,0)) (bs BK651)) : gb651 ≠ gb652));have n6_:=zMk ((by rw [hg];exact Nat.ne_of_gt (blk_lt (g:=gb651) (o:=.cells #[.int .i64 a0_0,.string a0_1] 101 (0,0)) (bs BK651)) : gb652 ≠ gb651));clear BK651;clear HB;have BK651:=n0_;have HB:=n1_;have BK652:=n2_;have GW652:=n3_;have GE652:=n4_;have NB651_652:=n5_;have NB652_651:=n6_;clear n0_ n1_ n2_ n3_ n4_ n5_ n6_;clear hb hbox hg;have hnb7:=NB651_652.out;have hnc7:=NB652_651.out;have hcz8_0 : w6.cell? ⟨gb651,0,none⟩ = some (.int .i64 a0_0):=(zCl BK651.out 0).trans rfl;have hcz8_1 : w6.cell? ⟨gb651,1,none⟩ = some (.string a0_1):=(zCl BK651.out 1).trans rfl;have hfz8_0:=zFr BK651.out 0;have hfz8_1:=zFr BK651.out 1;have hcz9_0 : w6.cell? ⟨gb652,0,none⟩ = some (.int .i64 a1_0):=(zCl BK652.out 0).trans rfl;have hcz9_1 : w6.cell? ⟨gb652,1,none⟩ = some (.string a1_1):=(zCl BK652.out 1).trans rfl;have hfz9_0:=zFr BK652.out 0;have hfz9_1:=zFr BK652.out 1))
 (try simp only [Act.put,zS1,zS2,zS3])
 by_cases c3 : a0_0 = a1_0
 ·rw [if_pos c3] at H;have c3b0 : (a0_0 == a1_0) = true:=beq_iff_eq.mpr c3;have c3b1 : (a0_0 != a1_0) = false:=bne_eq_false_iff_eq.mpr c3;clear c3
  (first | rw [c3b0] | rw [c3b1] | (simp only [i64_w,i32_w];rw [c3b0]) | skip)
  by_cases c4 : a0_1.toList = a1_1.toList
  ·rw [if_pos c4] at H;have c4b0 : (a0_1.toList == a1_1.toList) = true:=beq_iff_eq.mpr c4;have c4b1 : (a0_1.toList != a1_1.toList) = false:=bne_eq_false_iff_eq.mpr c4;clear c4;obtain rfl:=Option.some.inj H
   go_wp2
   go_ret
   exact ⟨by first | rfl | (simp [errW_none,errW_some] <;> rfl) | (simp [*,errW_none,errW_some] <;> rfl),hs2 HB GE651 GE652⟩
  rw [if_neg c4] at H;have c4b0 : (a0_1.toList == a1_1.toList) = false:=beq_eq_false_iff_ne.mpr c4;have c4b1 : (a0_1.toList != a1_1.toList) = true:=bne_iff_ne.mpr c4;obtain rfl:=Option.some.inj H
  go_wp2
  go_ret
  exact ⟨by first | rfl | (simp [errW_none,errW_some] <;> rfl) | (simp [*,errW_none,errW_some] <;> rfl),hs2 HB GE651 GE652⟩
 rw [if_neg c3] at H;have c3b0 : (a0_0 == a1_0) = false:=beq_eq_false_iff_ne.mpr c3;have c3b1 : (a0_0 != a1_0) = true:=bne_iff_ne.mpr c3
 (first | rw [c3b0] | rw [c3b1] | (simp only [i64_w,i32_w];rw [c3b0]) | skip)
 obtain rfl:=Option.some.inj H
 go_wp2
 go_ret
 exact ⟨by first | rfl | (simp [errW_none,errW_some] <;> rfl) | (simp [*,errW_none,errW_some] <;> rfl),hs2 HB GE651 GE652⟩
def laws_eqLeafS.l0 : Nat → List (S101) → List (S101) → Int → Option (Bool)
 | 0,_,_,_=>none
 | k + 1,x0,x1,x5=>if x5 < (x0.length : Int) then (if 0 ≤ x5 then (if x5 < (x1.length : Int) then ((laws_eqLeaf.f ((rd_T101 x0 x5).f0) ((rd_T101 x0 x5).f1) ((rd_T101 x1 x5).f0) ((rd_T101 x1 x5).f1)).bind fun t655=>(if t655 = true then (laws_eqLeafS.l0 k x0 x1 (wrap64 (x5 + 1))) else (some false))) else (none)) else (none)) else (some true)
def laws_eqLeafS.f (k : Nat) (l0 : List (S101)) (l1 : List (S101)) : Option (Bool):=if (l0.length : Int) = (l1.length : Int) then (laws_eqLeafS.l0 k l0 l1 0) else (some false)
theorem laws_eqLeafS.mono_l : ∀ k,(∀ y0 y1 y2,LeO (laws_eqLeafS.l0 k y0 y1 y2) (laws_eqLeafS.l0 (k + 1) y0 y1 y2))
 | 0=>fun _ _ _ r h=>by simp [laws_eqLeafS.l0] at h
 | k + 1=>by
  have ih0:=laws_eqLeafS.mono_l k;intro y0 y1 y2;unfold laws_eqLeafS.l0
  repeat' first
  | (with_reducible exact ih0 _ _ _)
  | (with_reducible exact LeO.refl _)
  | (with_reducible exact LeO.none _)
  | (with_reducible refine LeO.ite ?_ ?_)
  | (with_reducible refine LeO.bind ?_ (fun _=>?_))
  | exact ih0 _ _ _
  | exact LeO.none _
  | refine LeO.ite ?_ ?_
  | refine LeO.bind ?_ (fun _=>?_)
theorem laws_eqLeafS.mono : ∀ a0 a1 k,LeO (laws_eqLeafS.f k a0 a1) (laws_eqLeafS.f (k + 1) a0 a1):=by
 intro a0 a1 k;have ih0:=laws_eqLeafS.mono_l k;unfold laws_eqLeafS.f
 repeat' first
   | (with_reducible exact ih0 _ _ _)
   | (with_reducible exact LeO.refl _)
   | (with_reducible exact LeO.none _)
   | (with_reducible refine LeO.ite ?_ ?_)
   | (with_reducible refine LeO.bind ?_ (fun _=>?_))
   | exact ih0 _ _ _
   | exact LeO.none _
   | refine LeO.ite ?_ ?_
   | refine LeO.bind ?_ (fun _=>?_)
def laws_eqLeafS.T6 : Bool × List (List Nat × List Nat):=(true,[([],[]),([],[]),([0,1],[0,1]),([2],[2]),([],[]),([],[]),([4,5],[4,5]),([6],[6]),([3,7],[3,7]),([8],[8])])
def laws_eqLeafS.B6 : List Nat:=[0,0,3,7,0,0,48,112,255,511]
theorem laws_eqLeafS.tab6 : rtab .any (opsOf Try.f111 6) = laws_eqLeafS.T6:=by kernel_rfl
theorem laws_eqLeafS.bits6 : waitsOk laws_eqLeafS.T6.2 laws_eqLeafS.B6 = true:=by kernel_rfl
set_option maxHeartbeats 8000000 in
set_option maxRecDepth 100000 in
theorem laws_eqLeafS.calls (k : Nat) (A0 : Option Addr) (c0 : Nat) (l0 : List (S101)) (A1 : Option Addr) (c1 : Nat) (l1 : List (S101)) (r : Bool) (w : World) (hr0 : Kd.C k101 w A0 l0.length l0) (hc0 : l0.length ≤ c0) (hr1 : Kd.C k101 w A1 l1.length l1) (hc1 : l1.length ≤ c1) (h : laws_eqLeafS.f k l0 l1 = some r) :
  Calls Try.prog 111 #[.slice A0 l0.length c0,.slice A1 l1.length c1] w fun e w'=>e = .returned (.bool r) ∧ Below w.heap.size w w':=by
 have hu101:=Try.underlying101;have HR0:=zMk hr0;have HC0:=zMk hc0;clear hr0 hc0;have HR1:=zMk hr1;have HC1:=zMk hc1;clear hr1 hc1;have HB:=zMk (Below.refl w.heap.size w);have H : (if (l0.length : Int) = (l1.length : Int) then (laws_eqLeafS.l0 k l0 l1 0) else (some false)) = some r:=h;clear h
 by_cases c3 : (l0.length : Int) = (l1.length : Int)
 ·rw [if_pos c3] at H;have c3b0 : ((l0.length : Int) == (l1.length : Int)) = true:=beq_iff_eq.mpr c3;have c3b1 : ((l0.length : Int) != (l1.length : Int)) = false:=bne_eq_false_iff_eq.mpr c3;have c3b2 : (l0.length == l1.length) = true:=by first | simpa using c3 | (simp at c3 ⊢;omega)
  clear c3;have H':=zMk H;clear H
  go_enter Try.func111,Try.ntmps111
  go_wp2
  go_loopg [5] k (fun kq v5 w'=>∃ (x5_1 : Int),v5 = .int .i64 x5_1 ∧ Aside0 (laws_eqLeafS.l0 kq l0 l1 x5_1 = some r) ∧ Aside0 (kq ≤ k) ∧ Aside0 (Below w.heap.size w w'));case atStart=>exact ⟨(0),(by first | rfl | (simp;done) | (simp [*];done)),H',⟨Nat.le_refl _⟩,⟨hs HB⟩⟩
  case round =>
   clear H'
   try clear c1
   try clear p2
   try clear c3
   try clear c3b0
   try clear c3b1
   try clear c3b2
   obtain ⟨x5_1,rfl,HA,HK1,HB⟩:=hrel;cases gk with
   | zero=>exact absurd HA.out (by simp [laws_eqLeafS.l0])
   | succ k1 =>
    have H:=HA.out;clear HA;simp only [laws_eqLeafS.l0] at H
    by_cases c4 : x5_1 < (l0.length : Int)
    ·rw [if_pos c4] at H;have c4b0 : decide (x5_1 < (l0.length : Int)) = true:=decide_eq_true c4;clear c4
     by_cases c5 : 0 ≤ x5_1
     ·rw [if_pos c5] at H;have c5b0 : decide (0 ≤ x5_1) = true:=decide_eq_true c5;clear c5
      by_cases c6 : x5_1 < (l1.length : Int)
      ·rw [if_pos c6] at H;have c6b0 : decide (x5_1 < (l1.length : Int)) = true:=decide_eq_true c6;clear c6;replace H:=Option.bind_eq_some_iff.mp H;obtain ⟨t655,A70,H⟩:=H;replace H : (if t655 = true then (laws_eqLeafS.l0 k1 l0 l1 (wrap64 (x5_1 + 1))) else (some false)) = some r:=H;have A7:=zMk A70;clear A70
       try go_wp2
       have n0_:=zMk (below_drew1 HB.out);clear HB;have HB:=n0_;clear n0_;have p653 : 0 ≤ (x5_1 : Int):=zDe (by first | (with_reducible assumption) | assumption);have q653 : x5_1 < (l0.length : Int):=zDe (by first | (with_reducible assumption) | assumption);obtain ⟨ad653,e653,hx653_0,hx653_1⟩:=at_T101 HR0.out x5_1 p653 q653;have hw653_1:=hx653_1;have hw653_0:=hx653_0;cases e653;replace hx653_0:=(HB.out.cell (zBl w _ hx653_0)).trans hx653_0;replace hx653_1:=(HB.out.cell (zBl w _ hx653_1)).trans hx653_1;replace p653:=eq_true p653;replace q653:=eq_true q653;have p654 : 0 ≤ (x5_1 : Int):=zDe (by first | (with_reducible assumption) | assumption);have q654 : x5_1 < (l1.length : Int):=zDe (by first | (with_reducible assumption) | assumption);obtain ⟨ad654,e654,hx654_0,hx654_1⟩:=at_T101 HR1.out x5_1 p654 q654;have hw654_1:=hx654_1;have hw654_0:=hx654_0;cases e654;replace hx654_0:=(HB.out.cell (zBl w _ hx654_0)).trans hx654_0;replace hx654_1:=(HB.out.cell (zBl w _ hx654_1)).trans hx654_1;replace p654:=eq_true p654;replace q654:=eq_true q654;refine start_ (n:=10) (S:=fun w'=>w'.cell? (ad653.add ((x5_1).toNat * 2)) = some (.int .i64 ((rd_T101 l0 x5_1).f0)) ∧ w'.cell? ⟨(ad653.add ((x5_1).toNat * 2)).block,(ad653.add ((x5_1).toNat * 2)).off + 1,none⟩ = some (.string ((rd_T101 l0 x5_1).f1)) ∧ w'.cell? (ad654.add ((x5_1).toNat * 2)) = some (.int .i64 ((rd_T101 l1 x5_1).f0)) ∧ w'.cell? ⟨(ad654.add ((x5_1).toNat * 2)).block,(ad654.add ((x5_1).toNat * 2)).off + 1,none⟩ = some (.string ((rd_T101 l1 x5_1).f1))) (ds:=[]) (zA 10 0) (by kernel_rfl) rfl rfl ⟨((HB.out.cell (zBl w _ hw653_0)).trans hw653_0),((HB.out.cell (zBl w _ hw653_1)).trans hw653_1),((HB.out.cell (zBl w _ hw654_0)).trans hw654_0),((HB.out.cell (zBl w _ hw654_1)).trans hw654_1)⟩ (fun hHeld=>?_);refine with_tabW laws_eqLeafS.tab6 laws_eqLeafS.bits6 (fun HT_ HW_=>?_);generalize wr.drew = w9 at HB hx653_0 hx653_1 hx654_0 hx654_1 hHeld ⊢;refine zP 0 17 (zA 10 1) (any_of HT_.out (by kernel_rfl)) ?_;refine zP 1 18 (zA 10 3) (any_of HT_.out (by kernel_rfl)) ?_;refine zP 2 19 (zA 10 7) (any_of HT_.out (by kernel_rfl)) ?_;refine zP 4 21 (zA 10 23) (any_of HT_.out (by kernel_rfl)) ?_;refine zP 5 22 (zA 10 55) (any_of HT_.out (by kernel_rfl)) ?_;refine zP 6 23 (zA 10 119) (any_of HT_.out (by kernel_rfl)) ?_;refine zT 3 20 (zA 10 127) (take_ofW HT_.out HW_.out (by kernel_rfl)) hHeld ?_;refine zT 7 24 (zA 10 255) (take_ofW HT_.out HW_.out (by kernel_rfl)) hHeld ?_;refine one_ (i:=8) (N:=some 25) (zA 10 511) rfl rfl (one_of HT_.out (by kernel_rfl)) (by decide) (fun K hK=>?_);refine goes_ Try.func137 (by kernel_rfl) rfl #[.agg #[.int .i64 ((rd_T101 l0 x5_1).f0),.string ((rd_T101 l0 x5_1).f1)],.agg #[.int .i64 ((rd_T101 l1 x5_1).f0),.string ((rd_T101 l1 x5_1).f1)]] (by rfl) rfl rfl (by (try simp only [List.map_toArray,List.map_cons,List.map_nil]);first | done | rfl | (simp only [List.length_drop,List.length_take];rfl)) ?_;with_reducible refine (laws_eqLeaf.calls ((rd_T101 l0 x5_1).f0) ((rd_T101 l0 x5_1).f1) ((rd_T101 l1 x5_1).f0) ((rd_T101 l1 x5_1).f1) t655 _ A7.out).mono ?_
       rintro e w10 ⟨rfl,hb⟩;refine ⟨_,rfl,?_⟩;have n0_:=zMk (below_step (hs HB) hb);clear HB;have HB:=n0_;clear n0_
       (try clear hb)
       (try clear hb2)
       (try clear hk)
       (try clear hi)
       refine hK.out _ _ ⟨((HB.out.cell (zBl w _ hw653_0)).trans hw653_0),((HB.out.cell (zBl w _ hw653_1)).trans hw653_1),((HB.out.cell (zBl w _ hw654_0)).trans hw654_0),((HB.out.cell (zBl w _ hw654_1)).trans hw654_1)⟩ (fun hHeld=>?_);clear hK K;refine norm_ (a':=?_) ?_ ?_;rotate_left
       ·show Act.put _ (some 25) _ = _;simp only [Act.put,zS1,zS2,zS3,i64_w,i32_w];rfl
       refine zP 9 26 (zA 10 1023) (any_of HT_.out (by kernel_rfl)) ?_;refine done_ (done_of HT_.out (by kernel_rfl)) ?_
       go_upto_if 26 with (fail)
       (try simp only [Act.put,zS1,zS2,zS3])
       by_cases c8 : t655 = true
       ·subst c8;have H1 : (laws_eqLeafS.l0 k1 l0 l1 (wrap64 (x5_1 + 1))) = some r:=by rw [if_pos rfl] at H;exact H
        clear H;have H:=H1;clear H1;have H':=zMk H;clear H
        try go_wp2
        go_roundg k1;case measure=>have:=HK1.out;omega
        case rel=>exact ⟨(wrap64 (x5_1 + 1)),(by first | rfl | (simp;done) | (simp [*];done)),H',⟨by have:=HK1.out;omega⟩,⟨hs HB⟩⟩
       replace c8:=Bool.eq_false_iff.mpr c8;subst c8;have H1 : (some false) = some r:=by rw [if_neg (show ¬ (false = true) by decide)] at H;exact H
       clear H;have H:=H1;clear H1;obtain rfl:=Option.some.inj H
       try go_wp2
       go_ret
       exact ⟨by first | rfl | (simp [errW_none,errW_some] <;> rfl) | (simp [*,errW_none,errW_some] <;> rfl),hs HB⟩
      rw [if_neg c6] at H;exact absurd H (by simp)
     rw [if_neg c5] at H;exact absurd H (by simp)
    rw [if_neg c4] at H;have c4b0 : decide (x5_1 < (l0.length : Int)) = false:=decide_eq_false c4;clear c4;obtain rfl:=Option.some.inj H
    go_wp2
    go_ret
    exact ⟨by first | rfl | (simp [errW_none,errW_some] <;> rfl) | (simp [*,errW_none,errW_some] <;> rfl),hs HB⟩
 rw [if_neg c3] at H;have c3b0 : ((l0.length : Int) == (l1.length : Int)) = false:=beq_eq_false_iff_ne.mpr c3;have c3b1 : ((l0.length : Int) != (l1.length : Int)) = true:=bne_iff_ne.mpr c3;have c3b2 : (l0.length == l1.length) = false:=by first | simpa using c3 | (simp at c3 ⊢;omega)
 obtain rfl:=Option.some.inj H
 go_enter Try.func111,Try.ntmps111
 go_wp2
 go_ret
 exact ⟨by first | rfl | (simp [errW_none,errW_some] <;> rfl) | (simp [*,errW_none,errW_some] <;> rfl),hs HB⟩
def laws_eqBlock.f (k : Nat) (a0_0 : Bool) (a0_1 : Int) (l0_2 : List (S101)) (a1_0 : Bool) (a1_1 : Int) (l1_2 : List (S101)) : Option (Bool):=if (a0_0 != a1_0) = true then (some false) else (if a0_1 = a1_1 then ((laws_eqLeafS.f k l0_2 l1_2).bind fun t658=>(if t658 = true then (some true) else (some false))) else (some false))
theorem laws_eqBlock.mono : ∀ a0 a1 a2 a3 a4 a5 k,LeO (laws_eqBlock.f k a0 a1 a2 a3 a4 a5) (laws_eqBlock.f (k + 1) a0 a1 a2 a3 a4 a5):=by
 intro a0 a1 a2 a3 a4 a5 k;unfold laws_eqBlock.f
 repeat' first
   | (with_reducible exact laws_eqLeafS.mono _ _ _)
   | (with_reducible exact LeO.refl _)
   | (with_reducible exact LeO.none _)
   | (with_reducible refine LeO.ite ?_ ?_)
   | (with_reducible refine LeO.bind ?_ (fun _=>?_))
   | exact laws_eqLeafS.mono _ _ _
   | exact LeO.none _
   | refine LeO.ite ?_ ?_
   | refine LeO.bind ?_ (fun _=>?_)
set_option maxHeartbeats 8000000 in
set_option maxRecDepth 100000 in
theorem laws_eqBlock.calls (k : Nat) (a0_0 : Bool) (a0_1 : Int) (A0_2 : Option Addr) (c0_2 : Nat) (l0_2 : List (S101)) (a1_0 : Bool) (a1_1 : Int) (A1_2 : Option Addr) (c1_2 : Nat) (l1_2 : List (S101)) (r : Bool) (w : World) (hr0_2 : Kd.C k101 w A0_2 l0_2.length l0_2) (hc0_2 : l0_2.length ≤ c0_2) (hr1_2 : Kd.C k101 w A1_2 l1_2.length l1_2) (hc1_2 : l1_2.length ≤ c1_2) (h : laws_eqBlock.f k a0_0 a0_1 l0_2 a1_0 a1_1 l1_2 = some r) :
  Calls Try.prog 90 #[.agg #[.bool a0_0,.int .i64 a0_1,.slice A0_2 l0_2.length c0_2],.agg #[.bool a1_0,.int .i64 a1_1,.slice A1_2 l1_2.length c1_2]] w fun e w'=>e = .returned (.bool r) ∧ Below w.heap.size w w':=by
 have hu83:=Try.underlying83;have HR0_2:=zMk hr0_2;have HC0_2:=zMk hc0_2;clear hr0_2 hc0_2;have HR1_2:=zMk hr1_2;have HC1_2:=zMk hc1_2;clear hr1_2 hc1_2;have HB:=zMk (Below.refl w.heap.size w);have H : (if (a0_0 != a1_0) = true then (some false) else (if a0_1 = a1_1 then ((laws_eqLeafS.f k l0_2 l1_2).bind fun t658=>(if t658 = true then (some true) else (some false))) else (some false))) = some r:=h;clear h
 go_enter Try.func90,Try.ntmps90
 go_upto_if 9 with (first | ((with_reducible refine gate_dst (N:=2) rfl ?_);refine box_event ?hg (N:=2) ?hd (cs:=#[.bool a0_0,.int .i64 a0_1,.slice A0_2 l0_2.length c0_2]) (t:=83) ?hr ?_;(case hd=>rfl);(case hg=>rfl);(case hr=>first | (go_simp;done) | (go_simp;rfl));intro gb656 hg w4 hbox hb;have n0_:=zMk (below_step (hs HB) hb);have n1_:=zMk (hbox);have n2_:=zMk ((by rw [hg];exact (below_size (hs HB)) : w.heap.size ≤ gb656));have n3_:=zMk ((by rw [hg];exact (below_size (hs HB)) : w.heap.size ≤ gb656));clear HB;have HB:=n0_;have BK656:=n1_;have GW656:=n2_;have GE656:=n3_;clear n0_ n1_ n2_ n3_;clear hb hbox hg) | ((with_reducible refine gate_dst (N:=3) rfl ?_);refine box_event ?hg (N:=3) ?hd (cs:=#[.bool a1_0,.int .i64 a1_1,.slice A1_2 l1_2.length c1_2]) (t:=83) ?hr ?_;(case hd=>rfl);(case hg=>rfl);(case hr=>first | (go_simp;done) | (go_simp;rfl));intro gb657 hg w5 hbox hb;have n0_:=zMk (blk_below (g:=gb656) (o:=.cells #[.bool a0_0,.int .i64 a0_1,.slice A0_2 l0_2.length c0_2] 83 (0,0)) (bs BK656) hb);have n1_:=zMk (below_step (hs1 HB GE656) hb);have n2_:=zMk (hbox);have n3_:=zMk ((by rw [hg];exact (below_size (hs1 HB GE656)) : w.heap.size ≤ gb657));have n4_:=zMk ((by rw [hg];exact (below_size (hs1 HB GE656)) : w.heap.size ≤ gb657));have n5_:=zMk ((by rw [hg];exact Nat.ne_of_lt (blk_lt (g:=gb656) (o:=.cells #[.bool a0_0,.int .i64 a0_1,.slice A0_2 l0_2.length c0_2] 83 (0,0)) (bs BK656)) : gb656 ≠ gb657));have n6_:=zMk ((by rw [hg];exact Nat.ne_of_gt (blk_lt (g:=gb656) (o:=.cells #[.bool a0_0,.int .i64 a0_1,.slice A0_2 l0_2.length c0_2] 83 (0,0)) (bs BK656)) : gb657 ≠ gb656));clear BK656;clear HB;have BK656:=n0_;have HB:=n1_;have BK657:=n2_;have GW657:=n3_;have GE657:=n4_;have NB656_657:=n5_;have NB657_656:=n6_;clear n0_ n1_ n2_ n3_ n4_ n5_ n6_;clear hb hbox hg;have hnb6:=NB656_657.out;have hnc6:=NB657_656.out;have hcz7_0 : w5.cell? ⟨gb656,0,none⟩ = some (.bool a0_0):=(zCl BK656.out 0).trans rfl;have hcz7_1 : w5.cell? ⟨gb656,1,none⟩ = some (.int .i64 a0_1):=(zCl BK656.out 1).trans rfl;have hcz7_2 : w5.cell? ⟨gb656,2,none⟩ = some (.slice A0_2 l0_2.length c0_2):=(zCl BK656.out 2).trans rfl;have hfz7_0:=zFr BK656.out 0;have hfz7_1:=zFr BK656.out 1;have hfz7_2:=zFr BK656.out 2;have hcz8_0 : w5.cell? ⟨gb657,0,none⟩ = some (.bool a1_0):=(zCl BK657.out 0).trans rfl;have hcz8_1 : w5.cell? ⟨gb657,1,none⟩ = some (.int .i64 a1_1):=(zCl BK657.out 1).trans rfl;have hcz8_2 : w5.cell? ⟨gb657,2,none⟩ = some (.slice A1_2 l1_2.length c1_2):=(zCl BK657.out 2).trans rfl;have hfz8_0:=zFr BK657.out 0;have hfz8_1:=zFr BK657.out 1;have hfz8_2:=zFr BK657.out 2))
 (try simp only [Act.put,zS1,zS2,zS3])
 by_cases c3 : (a0_0 != a1_0) = true
 ·rw [if_pos c3] at H;have c3b0 : (a0_0 != a1_0) = true:=c3
  (try (have c3b1 : decide (a0_0 = a1_0) = false:=by simpa using c3))
  (try (have c3b2 : (a0_0 == a1_0) = false:=by simpa using c3))
  (try (have c3b3 : ¬ (a0_0 = a1_0):=by simpa using c3))
  clear c3
  (first | rw [c3b0] | rw [c3b1] | rw [c3b2] | rw [c3b3] | (simp only [i64_w,i32_w];rw [c3b0]) | skip)
  obtain rfl:=Option.some.inj H
  go_wp2
  go_ret
  exact ⟨by first | rfl | (simp [errW_none,errW_some] <;> rfl) | (simp [*,errW_none,errW_some] <;> rfl),hs2 HB GE656 GE657⟩
 rw [if_neg c3] at H;have c3b0 : (a0_0 != a1_0) = false:=by simpa using c3
 (try (have c3b1 : decide (a0_0 = a1_0) = true:=by simpa using c3))
 (try (have c3b2 : (a0_0 == a1_0) = true:=by simpa using c3))
 clear c3
 (first | rw [c3b0] | rw [c3b1] | rw [c3b2] | (simp only [i64_w,i32_w];rw [c3b0]) | skip)
 by_cases c9 : a0_1 = a1_1
 ·rw [if_pos c9] at H;have c9b0 : (a0_1 == a1_1) = true:=beq_iff_eq.mpr c9;have c9b1 : (a0_1 != a1_1) = false:=bne_eq_false_iff_eq.mpr c9;clear c9;replace H:=Option.bind_eq_some_iff.mp H;obtain ⟨t658,A100,H⟩:=H;replace H : (if t658 = true then (some true) else (some false)) = some r:=H;have A10:=zMk A100;clear A100
  go_upto_if 20 with (first | ((with_reducible refine gate_callee (f:=111) rfl ?_);refine goesL_ (some 19) rfl rfl Try.func111 (by kernel_rfl) rfl #[.slice A0_2 l0_2.length c0_2,.slice A1_2 l1_2.length c1_2] rfl (by (try simp only [List.map_toArray,List.map_cons,List.map_nil]);first | done | rfl | (simp only [List.length_drop,List.length_take];rfl)) ?_;(with_reducible refine (laws_eqLeafS.calls k _ _ l0_2 _ _ l1_2 t658 _ ?side1 ?side2 ?side3 ?side4 A10.out).mono ?_);(case side1=>repeat (first | exact (Kd.C_below HR0_2.out HB.out) | (with_reducible refine Kd.C_alloc ?_ _) | (with_reducible refine Kd.C_drewN ?_ _) | (with_reducible refine Kd.C_drew ?_)));(case side2=>exact HC0_2.out);(case side3=>repeat (first | exact (Kd.C_below HR1_2.out HB.out) | (with_reducible refine Kd.C_alloc ?_ _) | (with_reducible refine Kd.C_drewN ?_ _) | (with_reducible refine Kd.C_drew ?_)));(case side4=>exact HC1_2.out);rintro e w17 ⟨rfl,hb⟩;refine ⟨_,rfl,?_⟩;have n0_:=zMk (blk_below (g:=gb656) (o:=.cells #[.bool a0_0,.int .i64 a0_1,.slice A0_2 l0_2.length c0_2] 83 (0,0)) (bs BK656) hb);have n1_:=zMk (blk_below (g:=gb657) (o:=.cells #[.bool a1_0,.int .i64 a1_1,.slice A1_2 l1_2.length c1_2] 83 (0,0)) (bs BK657) hb);have n2_:=zMk (below_step (hs2 HB GE656 GE657) hb);clear BK656;clear BK657;clear HB;have BK656:=n0_;have BK657:=n1_;have HB:=n2_;clear n0_ n1_ n2_;(try clear hb);(try clear hb2);(try clear hk);(try clear hi)))
  (try simp only [Act.put,zS1,zS2,zS3])
  by_cases c11 : t658 = true
  ·subst c11;have H1 : (some true) = some r:=by rw [if_pos rfl] at H;exact H
   clear H;have H:=H1;clear H1;obtain rfl:=Option.some.inj H
   go_wp2
   go_ret
   exact ⟨by first | rfl | (simp [errW_none,errW_some] <;> rfl) | (simp [*,errW_none,errW_some] <;> rfl),hs2 HB GE656 GE657⟩
  replace c11:=Bool.eq_false_iff.mpr c11;subst c11;have H1 : (some false) = some r:=by rw [if_neg (show ¬ (false = true) by decide)] at H;exact H
  clear H;have H:=H1;clear H1;obtain rfl:=Option.some.inj H
  go_wp2
  go_ret
  exact ⟨by first | rfl | (simp [errW_none,errW_some] <;> rfl) | (simp [*,errW_none,errW_some] <;> rfl),hs2 HB GE656 GE657⟩
 rw [if_neg c9] at H;have c9b0 : (a0_1 == a1_1) = false:=beq_eq_false_iff_ne.mpr c9;have c9b1 : (a0_1 != a1_1) = true:=bne_iff_ne.mpr c9;obtain rfl:=Option.some.inj H
 go_wp2
 go_ret
 exact ⟨by first | rfl | (simp [errW_none,errW_some] <;> rfl) | (simp [*,errW_none,errW_some] <;> rfl),hs2 HB GE656 GE657⟩
def laws_eqBlockS.l0 : Nat → List (S83) → List (S83) → Int → Option (Bool)
 | 0,_,_,_=>none
 | k + 1,x0,x1,x5=>if x5 < (x0.length : Int) then (if 0 ≤ x5 then (if x5 < (x1.length : Int) then ((laws_eqBlock.f k ((rd_T83 x0 x5).f0) ((rd_T83 x0 x5).f1) ((rd_T83 x0 x5).f2) ((rd_T83 x1 x5).f0) ((rd_T83 x1 x5).f1) ((rd_T83 x1 x5).f2)).bind fun t661=>(if t661 = true then (laws_eqBlockS.l0 k x0 x1 (wrap64 (x5 + 1))) else (some false))) else (none)) else (none)) else (some true)
def laws_eqBlockS.f (k : Nat) (l0 : List (S83)) (l1 : List (S83)) : Option (Bool):=if (l0.length : Int) = (l1.length : Int) then (laws_eqBlockS.l0 k l0 l1 0) else (some false)
theorem laws_eqBlockS.mono_l : ∀ k,(∀ y0 y1 y2,LeO (laws_eqBlockS.l0 k y0 y1 y2) (laws_eqBlockS.l0 (k + 1) y0 y1 y2))
 | 0=>fun _ _ _ r h=>by simp [laws_eqBlockS.l0] at h
 | k + 1=>by
  have ih0:=laws_eqBlockS.mono_l k;intro y0 y1 y2;unfold laws_eqBlockS.l0
  repeat' first
  | (with_reducible exact ih0 _ _ _)
  | (with_reducible exact laws_eqBlock.mono _ _ _ _ _ _ _)
  | (with_reducible exact LeO.refl _)
  | (with_reducible exact LeO.none _)
  | (with_reducible refine LeO.ite ?_ ?_)
  | (with_reducible refine LeO.bind ?_ (fun _=>?_))
  | exact ih0 _ _ _
  | exact laws_eqBlock.mono _ _ _ _ _ _ _
  | exact LeO.none _
  | refine LeO.ite ?_ ?_
  | refine LeO.bind ?_ (fun _=>?_)
theorem laws_eqBlockS.mono : ∀ a0 a1 k,LeO (laws_eqBlockS.f k a0 a1) (laws_eqBlockS.f (k + 1) a0 a1):=by
 intro a0 a1 k;have ih0:=laws_eqBlockS.mono_l k;unfold laws_eqBlockS.f
 repeat' first
   | (with_reducible exact ih0 _ _ _)
   | (with_reducible exact laws_eqBlock.mono _ _ _ _ _ _ _)
   | (with_reducible exact LeO.refl _)
   | (with_reducible exact LeO.none _)
   | (with_reducible refine LeO.ite ?_ ?_)
   | (with_reducible refine LeO.bind ?_ (fun _=>?_))
   | exact ih0 _ _ _
   | exact laws_eqBlock.mono _ _ _ _ _ _ _
   | exact LeO.none _
   | refine LeO.ite ?_ ?_
   | refine LeO.bind ?_ (fun _=>?_)
def laws_eqBlockS.T6 : Bool × List (List Nat × List Nat):=(true,[([],[]),([],[]),([0,1],[0,1]),([2],[2]),([],[]),([],[]),([4,5],[4,5]),([6],[6]),([3,7],[3,7]),([8],[8])])
def laws_eqBlockS.B6 : List Nat:=[0,0,3,7,0,0,48,112,255,511]
theorem laws_eqBlockS.tab6 : rtab .any (opsOf Try.f60 6) = laws_eqBlockS.T6:=by kernel_rfl
theorem laws_eqBlockS.bits6 : waitsOk laws_eqBlockS.T6.2 laws_eqBlockS.B6 = true:=by kernel_rfl
set_option maxHeartbeats 8000000 in
set_option maxRecDepth 100000 in
theorem laws_eqBlockS.calls (k : Nat) (A0 : Option Addr) (c0 : Nat) (l0 : List (S83)) (A1 : Option Addr) (c1 : Nat) (l1 : List (S83)) (r : Bool) (w : World) (hr0 : Kd.C k83 w A0 l0.length l0) (hc0 : l0.length ≤ c0) (hr1 : Kd.C k83 w A1 l1.length l1) (hc1 : l1.length ≤ c1) (h : laws_eqBlockS.f k l0 l1 = some r) :
  Calls Try.prog 60 #[.slice A0 l0.length c0,.slice A1 l1.length c1] w fun e w'=>e = .returned (.bool r) ∧ Below w.heap.size w w':=by
 have hu83:=Try.underlying83;have HR0:=zMk hr0;have HC0:=zMk hc0;clear hr0 hc0;have HR1:=zMk hr1;have HC1:=zMk hc1;clear hr1 hc1;have HB:=zMk (Below.refl w.heap.size w);have H : (if (l0.length : Int) = (l1.length : Int) then (laws_eqBlockS.l0 k l0 l1 0) else (some false)) = some r:=h;clear h
 by_cases c3 : (l0.length : Int) = (l1.length : Int)
 ·rw [if_pos c3] at H;have c3b0 : ((l0.length : Int) == (l1.length : Int)) = true:=beq_iff_eq.mpr c3;have c3b1 : ((l0.length : Int) != (l1.length : Int)) = false:=bne_eq_false_iff_eq.mpr c3;have c3b2 : (l0.length == l1.length) = true:=by first | simpa using c3 | (simp at c3 ⊢;omega)
  clear c3;have H':=zMk H;clear H
  go_enter Try.func60,Try.ntmps60
  go_wp2
  go_loopg [5] k (fun kq v5 w'=>∃ (x5_1 : Int),v5 = .int .i64 x5_1 ∧ Aside0 (laws_eqBlockS.l0 kq l0 l1 x5_1 = some r) ∧ Aside0 (kq ≤ k) ∧ Aside0 (Below w.heap.size w w'));case atStart=>exact ⟨(0),(by first | rfl | (simp;done) | (simp [*];done)),H',⟨Nat.le_refl _⟩,⟨hs HB⟩⟩
  case round =>
   clear H'
   try clear c1
   try clear p2
   try clear c3
   try clear c3b0
   try clear c3b1
   try clear c3b2
   obtain ⟨x5_1,rfl,HA,HK1,HB⟩:=hrel;cases gk with
   | zero=>exact absurd HA.out (by simp [laws_eqBlockS.l0])
   | succ k1 =>
    have H:=HA.out;clear HA;simp only [laws_eqBlockS.l0] at H
    by_cases c4 : x5_1 < (l0.length : Int)
    ·rw [if_pos c4] at H;have c4b0 : decide (x5_1 < (l0.length : Int)) = true:=decide_eq_true c4;clear c4
     by_cases c5 : 0 ≤ x5_1
     ·rw [if_pos c5] at H;have c5b0 : decide (0 ≤ x5_1) = true:=decide_eq_true c5;clear c5
      by_cases c6 : x5_1 < (l1.length : Int)
      ·rw [if_pos c6] at H;have c6b0 : decide (x5_1 < (l1.length : Int)) = true:=decide_eq_true c6;clear c6;replace H:=Option.bind_eq_some_iff.mp H;obtain ⟨t661,A70,H⟩:=H;replace H : (if t661 = true then (laws_eqBlockS.l0 k1 l0 l1 (wrap64 (x5_1 + 1))) else (some false)) = some r:=H;have A7:=zMk A70;clear A70
       try go_wp2
       have n0_:=zMk (below_drew1 HB.out);clear HB;have HB:=n0_;clear n0_;have p659 : 0 ≤ (x5_1 : Int):=zDe (by first | (with_reducible assumption) | assumption);have q659 : x5_1 < (l0.length : Int):=zDe (by first | (with_reducible assumption) | assumption);obtain ⟨ad659,A659_2,c659_2,e659,hx659_0,hx659_1,hx659_2,hl659_2,hi659_2⟩:=at_T83 HR0.out x5_1 p659 q659;have hw659_2:=hx659_2;have hw659_1:=hx659_1;have hw659_0:=hx659_0;cases e659;replace hx659_0:=(HB.out.cell (zBl w _ hx659_0)).trans hx659_0;replace hx659_1:=(HB.out.cell (zBl w _ hx659_1)).trans hx659_1;replace hx659_2:=(HB.out.cell (zBl w _ hx659_2)).trans hx659_2;have HR659_2:=zMk hi659_2;have HC659_2:=zMk hl659_2;clear hi659_2 hl659_2;replace p659:=eq_true p659;replace q659:=eq_true q659;have p660 : 0 ≤ (x5_1 : Int):=zDe (by first | (with_reducible assumption) | assumption);have q660 : x5_1 < (l1.length : Int):=zDe (by first | (with_reducible assumption) | assumption);obtain ⟨ad660,A660_2,c660_2,e660,hx660_0,hx660_1,hx660_2,hl660_2,hi660_2⟩:=at_T83 HR1.out x5_1 p660 q660;have hw660_2:=hx660_2;have hw660_1:=hx660_1;have hw660_0:=hx660_0;cases e660;replace hx660_0:=(HB.out.cell (zBl w _ hx660_0)).trans hx660_0;replace hx660_1:=(HB.out.cell (zBl w _ hx660_1)).trans hx660_1;replace hx660_2:=(HB.out.cell (zBl w _ hx660_2)).trans hx660_2;have HR660_2:=zMk hi660_2;have HC660_2:=zMk hl660_2;clear hi660_2 hl660_2;replace p660:=eq_true p660;replace q660:=eq_true q660;refine start_ (n:=10) (S:=fun w'=>w'.cell? (ad659.add ((x5_1).toNat * 3)) = some (.bool ((rd_T83 l0 x5_1).f0)) ∧ w'.cell? ⟨(ad659.add ((x5_1).toNat * 3)).block,(ad659.add ((x5_1).toNat * 3)).off + 1,none⟩ = some (.int .i64 ((rd_T83 l0 x5_1).f1)) ∧ w'.cell? ⟨(ad659.add ((x5_1).toNat * 3)).block,(ad659.add ((x5_1).toNat * 3)).off + 2,none⟩ = some (.slice A659_2 ((rd_T83 l0 x5_1).f2).length c659_2) ∧ w'.cell? (ad660.add ((x5_1).toNat * 3)) = some (.bool ((rd_T83 l1 x5_1).f0)) ∧ w'.cell? ⟨(ad660.add ((x5_1).toNat * 3)).block,(ad660.add ((x5_1).toNat * 3)).off + 1,none⟩ = some (.int .i64 ((rd_T83 l1 x5_1).f1)) ∧ w'.cell? ⟨(ad660.add ((x5_1).toNat * 3)).block,(ad660.add ((x5_1).toNat * 3)).off + 2,none⟩ = some (.slice A660_2 ((rd_T83 l1 x5_1).f2).length c660_2)) (ds:=[]) (zA 10 0) (by kernel_rfl) rfl rfl ⟨((HB.out.cell (zBl w _ hw659_0)).trans hw659_0),((HB.out.cell (zBl w _ hw659_1)).trans hw659_1),((HB.out.cell (zBl w _ hw659_2)).trans hw659_2),((HB.out.cell (zBl w _ hw660_0)).trans hw660_0),((HB.out.cell (zBl w _ hw660_1)).trans hw660_1),((HB.out.cell (zBl w _ hw660_2)).trans hw660_2)⟩ (fun hHeld=>?_);refine with_tabW laws_eqBlockS.tab6 laws_eqBlockS.bits6 (fun HT_ HW_=>?_);generalize wr.drew = w9 at HB HR659_2 HR660_2 hx659_0 hx659_1 hx659_2 hx660_0 hx660_1 hx660_2 hHeld ⊢;refine zP 0 17 (zA 10 1) (any_of HT_.out (by kernel_rfl)) ?_;refine zP 1 18 (zA 10 3) (any_of HT_.out (by kernel_rfl)) ?_;refine zP 2 19 (zA 10 7) (any_of HT_.out (by kernel_rfl)) ?_;refine zP 4 21 (zA 10 23) (any_of HT_.out (by kernel_rfl)) ?_;refine zP 5 22 (zA 10 55) (any_of HT_.out (by kernel_rfl)) ?_;refine zP 6 23 (zA 10 119) (any_of HT_.out (by kernel_rfl)) ?_;refine zT 3 20 (zA 10 127) (take_ofW HT_.out HW_.out (by kernel_rfl)) hHeld ?_;refine zT 7 24 (zA 10 255) (take_ofW HT_.out HW_.out (by kernel_rfl)) hHeld ?_;refine one_ (i:=8) (N:=some 25) (zA 10 511) rfl rfl (one_of HT_.out (by kernel_rfl)) (by decide) (fun K hK=>?_);refine goes_ Try.func90 (by kernel_rfl) rfl #[.agg #[.bool ((rd_T83 l0 x5_1).f0),.int .i64 ((rd_T83 l0 x5_1).f1),.slice A659_2 ((rd_T83 l0 x5_1).f2).length c659_2],.agg #[.bool ((rd_T83 l1 x5_1).f0),.int .i64 ((rd_T83 l1 x5_1).f1),.slice A660_2 ((rd_T83 l1 x5_1).f2).length c660_2]] (by rfl) rfl rfl (by (try simp only [List.map_toArray,List.map_cons,List.map_nil]);first | done | rfl | (simp only [List.length_drop,List.length_take];rfl)) ?_;with_reducible refine (laws_eqBlock.calls k1 ((rd_T83 l0 x5_1).f0) ((rd_T83 l0 x5_1).f1) _ _ ((rd_T83 l0 x5_1).f2) ((rd_T83 l1 x5_1).f0) ((rd_T83 l1 x5_1).f1) _ _ ((rd_T83 l1 x5_1).f2) t661 _ ?side1 ?side2 ?side3 ?side4 A7.out).mono ?_
       (case side1=>repeat (first | exact (Kd.C_below HR659_2.out HB.out) | (with_reducible refine Kd.C_alloc ?_ _) | (with_reducible refine Kd.C_drewN ?_ _) | (with_reducible refine Kd.C_drew ?_)))
       (case side2=>exact HC659_2.out)
       (case side3=>repeat (first | exact (Kd.C_below HR660_2.out HB.out) | (with_reducible refine Kd.C_alloc ?_ _) | (with_reducible refine Kd.C_drewN ?_ _) | (with_reducible refine Kd.C_drew ?_)))
       (case side4=>exact HC660_2.out)
       rintro e w10 ⟨rfl,hb⟩;refine ⟨_,rfl,?_⟩;have n0_:=zMk (below_step (hs HB) hb);clear HB;have HB:=n0_;clear n0_
       (try clear hb)
       (try clear hb2)
       (try clear hk)
       (try clear hi)
       refine hK.out _ _ ⟨((HB.out.cell (zBl w _ hw659_0)).trans hw659_0),((HB.out.cell (zBl w _ hw659_1)).trans hw659_1),((HB.out.cell (zBl w _ hw659_2)).trans hw659_2),((HB.out.cell (zBl w _ hw660_0)).trans hw660_0),((HB.out.cell (zBl w _ hw660_1)).trans hw660_1),((HB.out.cell (zBl w _ hw660_2)).trans hw660_2)⟩ (fun hHeld=>?_);clear hK K;refine norm_ (a':=?_) ?_ ?_;rotate_left
       ·show Act.put _ (some 25) _ = _;simp only [Act.put,zS1,zS2,zS3,i64_w,i32_w];rfl
       refine zP 9 26 (zA 10 1023) (any_of HT_.out (by kernel_rfl)) ?_;refine done_ (done_of HT_.out (by kernel_rfl)) ?_
       go_upto_if 26 with (fail)
       (try simp only [Act.put,zS1,zS2,zS3])
       by_cases c8 : t661 = true
       ·subst c8;have H1 : (laws_eqBlockS.l0 k1 l0 l1 (wrap64 (x5_1 + 1))) = some r:=by rw [if_pos rfl] at H;exact H
        clear H;have H:=H1;clear H1;have H':=zMk H;clear H
        try go_wp2
        go_roundg k1;case measure=>have:=HK1.out;omega
        case rel=>exact ⟨(wrap64 (x5_1 + 1)),(by first | rfl | (simp;done) | (simp [*];done)),H',⟨by have:=HK1.out;omega⟩,⟨hs HB⟩⟩
       replace c8:=Bool.eq_false_iff.mpr c8;subst c8;have H1 : (some false) = some r:=by rw [if_neg (show ¬ (false = true) by decide)] at H;exact H
       clear H;have H:=H1;clear H1;obtain rfl:=Option.some.inj H
       try go_wp2
       go_ret
       exact ⟨by first | rfl | (simp [errW_none,errW_some] <;> rfl) | (simp [*,errW_none,errW_some] <;> rfl),hs HB⟩
      rw [if_neg c6] at H;exact absurd H (by simp)
     rw [if_neg c5] at H;exact absurd H (by simp)
    rw [if_neg c4] at H;have c4b0 : decide (x5_1 < (l0.length : Int)) = false:=decide_eq_false c4;clear c4;obtain rfl:=Option.some.inj H
    go_wp2
    go_ret
    exact ⟨by first | rfl | (simp [errW_none,errW_some] <;> rfl) | (simp [*,errW_none,errW_some] <;> rfl),hs HB⟩
 rw [if_neg c3] at H;have c3b0 : ((l0.length : Int) == (l1.length : Int)) = false:=beq_eq_false_iff_ne.mpr c3;have c3b1 : ((l0.length : Int) != (l1.length : Int)) = true:=bne_iff_ne.mpr c3;have c3b2 : (l0.length == l1.length) = false:=by first | simpa using c3 | (simp at c3 ⊢;omega)
 obtain rfl:=Option.some.inj H
 go_enter Try.func60,Try.ntmps60
 go_wp2
 go_ret
 exact ⟨by first | rfl | (simp [errW_none,errW_some] <;> rfl) | (simp [*,errW_none,errW_some] <;> rfl),hs HB⟩
def laws_eqFlash.f (k : Nat) (l0_0 : List (S83)) (l1_0 : List (S83)) : Option (Bool):=(laws_eqBlockS.f k l0_0 l1_0).bind fun t664=>(if t664 = true then (some true) else (some false))
theorem laws_eqFlash.mono : ∀ a0 a1 k,LeO (laws_eqFlash.f k a0 a1) (laws_eqFlash.f (k + 1) a0 a1):=by
 intro a0 a1 k;unfold laws_eqFlash.f
 repeat' first
   | (with_reducible exact laws_eqBlockS.mono _ _ _)
   | (with_reducible exact LeO.refl _)
   | (with_reducible exact LeO.none _)
   | (with_reducible refine LeO.ite ?_ ?_)
   | (with_reducible refine LeO.bind ?_ (fun _=>?_))
   | exact laws_eqBlockS.mono _ _ _
   | exact LeO.none _
   | refine LeO.ite ?_ ?_
   | refine LeO.bind ?_ (fun _=>?_)
set_option maxHeartbeats 8000000 in
set_option maxRecDepth 100000 in
theorem laws_eqFlash.calls (k : Nat) (A0_0 : Option Addr) (c0_0 : Nat) (l0_0 : List (S83)) (A1_0 : Option Addr) (c1_0 : Nat) (l1_0 : List (S83)) (r : Bool) (w : World) (hr0_0 : Kd.C k83 w A0_0 l0_0.length l0_0) (hc0_0 : l0_0.length ≤ c0_0) (hr1_0 : Kd.C k83 w A1_0 l1_0.length l1_0) (hc1_0 : l1_0.length ≤ c1_0) (h : laws_eqFlash.f k l0_0 l1_0 = some r) :
  Calls Try.prog 23 #[.agg #[.slice A0_0 l0_0.length c0_0],.agg #[.slice A1_0 l1_0.length c1_0]] w fun e w'=>e = .returned (.bool r) ∧ Below w.heap.size w w':=by
 have hu52:=Try.underlying52;have HR0_0:=zMk hr0_0;have HC0_0:=zMk hc0_0;clear hr0_0 hc0_0;have HR1_0:=zMk hr1_0;have HC1_0:=zMk hc1_0;clear hr1_0 hc1_0;have HB:=zMk (Below.refl w.heap.size w);have H : ((laws_eqBlockS.f k l0_0 l1_0).bind fun t664=>(if t664 = true then (some true) else (some false))) = some r:=h;clear h;replace H:=Option.bind_eq_some_iff.mp H;obtain ⟨t664,A30,H⟩:=H;replace H : (if t664 = true then (some true) else (some false)) = some r:=H;have A3:=zMk A30;clear A30
 go_enter Try.func23,Try.ntmps23
 go_upto_if 10 with (first | ((with_reducible refine gate_dst (N:=2) rfl ?_);refine box_event ?hg (N:=2) ?hd (cs:=#[.slice A0_0 l0_0.length c0_0]) (t:=52) ?hr ?_;(case hd=>rfl);(case hg=>rfl);(case hr=>first | (go_simp;done) | (go_simp;rfl));intro gb662 hg w5 hbox hb;have n0_:=zMk (below_step (hs HB) hb);have n1_:=zMk (hbox);have n2_:=zMk ((by rw [hg];exact (below_size (hs HB)) : w.heap.size ≤ gb662));have n3_:=zMk ((by rw [hg];exact (below_size (hs HB)) : w.heap.size ≤ gb662));clear HB;have HB:=n0_;have BK662:=n1_;have GW662:=n2_;have GE662:=n3_;clear n0_ n1_ n2_ n3_;clear hb hbox hg) | ((with_reducible refine gate_dst (N:=3) rfl ?_);refine box_event ?hg (N:=3) ?hd (cs:=#[.slice A1_0 l1_0.length c1_0]) (t:=52) ?hr ?_;(case hd=>rfl);(case hg=>rfl);(case hr=>first | (go_simp;done) | (go_simp;rfl));intro gb663 hg w6 hbox hb;have n0_:=zMk (blk_below (g:=gb662) (o:=.cells #[.slice A0_0 l0_0.length c0_0] 52 (0,0)) (bs BK662) hb);have n1_:=zMk (below_step (hs1 HB GE662) hb);have n2_:=zMk (hbox);have n3_:=zMk ((by rw [hg];exact (below_size (hs1 HB GE662)) : w.heap.size ≤ gb663));have n4_:=zMk ((by rw [hg];exact (below_size (hs1 HB GE662)) : w.heap.size ≤ gb663));have n5_:=zMk ((by rw [hg];exact Nat.ne_of_lt (blk_lt (g:=gb662) (o:=.cells #[.slice A0_0 l0_0.length c0_0] 52 (0,0)) (bs BK662)) : gb662 ≠ gb663));have n6_:=zMk ((by rw [hg];exact Nat.ne_of_gt (blk_lt (g:=gb662) (o:=.cells #[.slice A0_0 l0_0.length c0_0] 52 (0,0)) (bs BK662)) : gb663 ≠ gb662));clear BK662;clear HB;have BK662:=n0_;have HB:=n1_;have BK663:=n2_;have GW663:=n3_;have GE663:=n4_;have NB662_663:=n5_;have NB663_662:=n6_;clear n0_ n1_ n2_ n3_ n4_ n5_ n6_;clear hb hbox hg;have hnb7:=NB662_663.out;have hnc7:=NB663_662.out;have hcz8_0 : w6.cell? ⟨gb662,0,none⟩ = some (.slice A0_0 l0_0.length c0_0):=(zCl BK662.out 0).trans rfl;have hfz8_0:=zFr BK662.out 0;have hcz9_0 : w6.cell? ⟨gb663,0,none⟩ = some (.slice A1_0 l1_0.length c1_0):=(zCl BK663.out 0).trans rfl;have hfz9_0:=zFr BK663.out 0) | ((with_reducible refine gate_callee (f:=60) rfl ?_);refine goesL_ (some 9) rfl rfl Try.func60 (by kernel_rfl) rfl #[.slice A0_0 l0_0.length c0_0,.slice A1_0 l1_0.length c1_0] rfl (by (try simp only [List.map_toArray,List.map_cons,List.map_nil]);first | done | rfl | (simp only [List.length_drop,List.length_take];rfl)) ?_;(with_reducible refine (laws_eqBlockS.calls k _ _ l0_0 _ _ l1_0 t664 _ ?side1 ?side2 ?side3 ?side4 A3.out).mono ?_);(case side1=>repeat (first | exact (Kd.C_below HR0_0.out HB.out) | (with_reducible refine Kd.C_alloc ?_ _) | (with_reducible refine Kd.C_drewN ?_ _) | (with_reducible refine Kd.C_drew ?_)));(case side2=>exact HC0_0.out);(case side3=>repeat (first | exact (Kd.C_below HR1_0.out HB.out) | (with_reducible refine Kd.C_alloc ?_ _) | (with_reducible refine Kd.C_drewN ?_ _) | (with_reducible refine Kd.C_drew ?_)));(case side4=>exact HC1_0.out);rintro e w10 ⟨rfl,hb⟩;refine ⟨_,rfl,?_⟩;have n0_:=zMk (blk_below (g:=gb662) (o:=.cells #[.slice A0_0 l0_0.length c0_0] 52 (0,0)) (bs BK662) hb);have n1_:=zMk (blk_below (g:=gb663) (o:=.cells #[.slice A1_0 l1_0.length c1_0] 52 (0,0)) (bs BK663) hb);have n2_:=zMk (below_step (hs2 HB GE662 GE663) hb);clear BK662;clear BK663;clear HB;have BK662:=n0_;have BK663:=n1_;have HB:=n2_;clear n0_ n1_ n2_;(try clear hb);(try clear hb2);(try clear hk);(try clear hi)))
 (try simp only [Act.put,zS1,zS2,zS3])
 by_cases c4 : t664 = true
 ·subst c4;have H1 : (some true) = some r:=by rw [if_pos rfl] at H;exact H
  clear H;have H:=H1;clear H1;obtain rfl:=Option.some.inj H
  go_wp2
  go_ret
  exact ⟨by first | rfl | (simp [errW_none,errW_some] <;> rfl) | (simp [*,errW_none,errW_some] <;> rfl),hs2 HB GE662 GE663⟩
 replace c4:=Bool.eq_false_iff.mpr c4;subst c4;have H1 : (some false) = some r:=by rw [if_neg (show ¬ (false = true) by decide)] at H;exact H
 clear H;have H:=H1;clear H1;obtain rfl:=Option.some.inj H
 go_wp2
 go_ret
 exact ⟨by first | rfl | (simp [errW_none,errW_some] <;> rfl) | (simp [*,errW_none,errW_some] <;> rfl),hs2 HB GE662 GE663⟩
def laws_heldLeafS.l0 : Nat → List (S101) → Int → Int → Option (Int)
 | 0,_,_,_=>none
 | k + 1,x0,x1,x5=>if x5 < (x0.length : Int) then (if 0 ≤ x5 then (if ((rd_T101 x0 x5).f0) = x1 then ((laws_markText.f k (wrap64 (x1 + 1))).bind fun t677=>(if ((rd_T101 x0 x5).f1).toList = t677.toList then (laws_heldLeafS.l0 k x0 (wrap64 ((wrap64 (x1 + 1)) + 1)) (wrap64 (x5 + 1))) else (some (-1)))) else (some (-1))) else (none)) else (some x1)
def laws_heldLeafS.f (k : Nat) (l0 : List (S101)) (a1 : Int) : Option (Int):=laws_heldLeafS.l0 k l0 a1 0
theorem laws_heldLeafS.mono_l : ∀ k,(∀ y0 y1 y2,LeO (laws_heldLeafS.l0 k y0 y1 y2) (laws_heldLeafS.l0 (k + 1) y0 y1 y2))
 | 0=>fun _ _ _ r h=>by simp [laws_heldLeafS.l0] at h
 | k + 1=>by
  have ih0:=laws_heldLeafS.mono_l k;intro y0 y1 y2;unfold laws_heldLeafS.l0
  repeat' first
  | (with_reducible exact ih0 _ _ _)
  | (with_reducible exact laws_markText.mono _ _)
  | (with_reducible exact LeO.refl _)
  | (with_reducible exact LeO.none _)
  | (with_reducible refine LeO.ite ?_ ?_)
  | (with_reducible refine LeO.bind ?_ (fun _=>?_))
  | exact ih0 _ _ _
  | exact laws_markText.mono _ _
  | exact LeO.none _
  | refine LeO.ite ?_ ?_
  | refine LeO.bind ?_ (fun _=>?_)
theorem laws_heldLeafS.mono : ∀ a0 a1 k,LeO (laws_heldLeafS.f k a0 a1) (laws_heldLeafS.f (k + 1) a0 a1):=by
 intro a0 a1 k;have ih0:=laws_heldLeafS.mono_l k;unfold laws_heldLeafS.f
 repeat' first
   | (with_reducible exact ih0 _ _ _)
   | (with_reducible exact laws_markText.mono _ _)
   | (with_reducible exact LeO.refl _)
   | (with_reducible exact LeO.none _)
   | (with_reducible refine LeO.ite ?_ ?_)
   | (with_reducible refine LeO.bind ?_ (fun _=>?_))
   | exact ih0 _ _ _
   | exact laws_markText.mono _ _
   | exact LeO.none _
   | refine LeO.ite ?_ ?_
   | refine LeO.bind ?_ (fun _=>?_)
def laws_heldLeafS.T7 : Bool × List (List Nat × List Nat):=(true,[([],[]),([],[]),([0,1],[0,1]),([2],[2]),([3],[3]),([],[]),([5],[5]),([4,6],[4,6])])
def laws_heldLeafS.B7 : List Nat:=[0,0,3,7,15,0,32,127]
theorem laws_heldLeafS.tab7 : rtab .any (opsOf Try.f92 7) = laws_heldLeafS.T7:=by kernel_rfl
theorem laws_heldLeafS.bits7 : waitsOk laws_heldLeafS.T7.2 laws_heldLeafS.B7 = true:=by kernel_rfl
set_option maxHeartbeats 8000000 in
set_option maxRecDepth 100000 in
theorem laws_heldLeafS.calls (k : Nat) (A0 : Option Addr) (c0 : Nat) (l0 : List (S101)) (a1 : Int) (r : Int) (w : World) (hr0 : Kd.C k101 w A0 l0.length l0) (hc0 : l0.length ≤ c0) (h : laws_heldLeafS.f k l0 a1 = some r) :
  Calls Try.prog 92 #[.slice A0 l0.length c0,.int .i64 a1] w fun e w'=>e = .returned (.int .i64 r) ∧ Below w.heap.size w w':=by
 have HR0:=zMk hr0;have HC0:=zMk hc0;clear hr0 hc0;have HB:=zMk (Below.refl w.heap.size w);have H : (laws_heldLeafS.l0 k l0 a1 0) = some r:=h;clear h;have H':=zMk H;clear H
 go_enter Try.func92,Try.ntmps92
 go_wp2
 go_loopg [1,5] k (fun kq v1 v5 w'=>∃ (x1_1 : Int) (x5_1 : Int),v1 = .int .i64 x1_1 ∧ v5 = .int .i64 x5_1 ∧ Aside0 (laws_heldLeafS.l0 kq l0 x1_1 x5_1 = some r) ∧ Aside0 (kq ≤ k) ∧ Aside0 (Below w.heap.size w w'));case atStart=>exact ⟨(a1),(0),(by first | rfl | (simp;done) | (simp [*];done)),(by first | rfl | (simp;done) | (simp [*];done)),H',⟨Nat.le_refl _⟩,⟨hs HB⟩⟩
 case round =>
  clear H'
  try clear p2
  obtain ⟨x1_1,x5_1,rfl,rfl,HA,HK1,HB⟩:=hrel;cases gk with
  | zero=>exact absurd HA.out (by simp [laws_heldLeafS.l0])
  | succ k1 =>
   have H:=HA.out;clear HA;simp only [laws_heldLeafS.l0] at H
   by_cases c3 : x5_1 < (l0.length : Int)
   ·rw [if_pos c3] at H;have c3b0 : decide (x5_1 < (l0.length : Int)) = true:=decide_eq_true c3;clear c3
    by_cases c4 : 0 ≤ x5_1
    ·rw [if_pos c4] at H;have c4b0 : decide (0 ≤ x5_1) = true:=decide_eq_true c4;clear c4
     by_cases c5 : ((rd_T101 l0 x5_1).f0) = x1_1
     ·rw [if_pos c5] at H;have c5b0 : (((rd_T101 l0 x5_1).f0) == x1_1) = true:=beq_iff_eq.mpr c5;have c5b1 : (((rd_T101 l0 x5_1).f0) != x1_1) = false:=bne_eq_false_iff_eq.mpr c5;clear c5;replace H:=Option.bind_eq_some_iff.mp H;obtain ⟨t677,A60,H⟩:=H;replace H : (if ((rd_T101 l0 x5_1).f1).toList = t677.toList then (laws_heldLeafS.l0 k1 l0 (wrap64 ((wrap64 (x1_1 + 1)) + 1)) (wrap64 (x5_1 + 1))) else (some (-1))) = some r:=H;have A6:=zMk A60;clear A60;have p675 : 0 ≤ (x5_1 : Int):=zDe (by first | (with_reducible assumption) | assumption);have q675 : x5_1 < (l0.length : Int):=zDe (by first | (with_reducible assumption) | assumption);obtain ⟨ad675,e675,hx675_0,hx675_1⟩:=at_T101 HR0.out x5_1 p675 q675;cases e675;replace hx675_0:=(HB.out.cell (zBl w _ hx675_0)).trans hx675_0;replace hx675_1:=(HB.out.cell (zBl w _ hx675_1)).trans hx675_1;replace p675:=eq_true p675;replace q675:=eq_true q675
      try go_wp2
      have n0_:=zMk (below_drew1 HB.out);clear HB;have HB:=n0_;clear n0_;have p676 : 0 ≤ (x5_1 : Int):=zDe (by first | (with_reducible assumption) | assumption);have q676 : x5_1 < (l0.length : Int):=zDe (by first | (with_reducible assumption) | assumption);obtain ⟨ad676,e676,hx676_0,hx676_1⟩:=at_T101 HR0.out x5_1 p676 q676;have hw676_1:=hx676_1;have hw676_0:=hx676_0;obtain rfl : ad675 = ad676:=(by injection e676);replace hx676_0:=(HB.out.cell (zBl w _ hx676_0)).trans hx676_0;replace hx676_1:=(HB.out.cell (zBl w _ hx676_1)).trans hx676_1;replace p676:=eq_true p676;replace q676:=eq_true q676;refine start_ (n:=8) (S:=fun w'=>w'.cell? (ad675.add ((x5_1).toNat * 2)) = some (.int .i64 ((rd_T101 l0 x5_1).f0)) ∧ w'.cell? ⟨(ad675.add ((x5_1).toNat * 2)).block,(ad675.add ((x5_1).toNat * 2)).off + 1,none⟩ = some (.string ((rd_T101 l0 x5_1).f1))) (ds:=[]) (zA 8 0) (by kernel_rfl) rfl rfl ⟨((HB.out.cell (zBl w _ hw676_0)).trans hw676_0),((HB.out.cell (zBl w _ hw676_1)).trans hw676_1)⟩ (fun hHeld=>?_);refine with_tabW laws_heldLeafS.tab7 laws_heldLeafS.bits7 (fun HT_ HW_=>?_);generalize wr.drew = w8 at HB hx676_0 hx676_1 hHeld ⊢;refine zP 0 21 (zA 8 1) (any_of HT_.out (by kernel_rfl)) ?_;refine zP 1 22 (zA 8 3) (any_of HT_.out (by kernel_rfl)) ?_;refine zP 2 23 (zA 8 7) (any_of HT_.out (by kernel_rfl)) ?_;refine zP 3 24 (zA 8 15) (any_of HT_.out (by kernel_rfl)) ?_;refine zP 5 26 (zA 8 47) (any_of HT_.out (by kernel_rfl)) ?_;refine zT 4 25 (zA 8 63) (take_ofW HT_.out HW_.out (by kernel_rfl)) hHeld ?_;refine one_ (i:=6) (N:=some 27) (zA 8 127) rfl rfl (one_of HT_.out (by kernel_rfl)) (by decide) (fun K hK=>?_);refine goes_ Try.func66 (by kernel_rfl) rfl #[.int .i64 (wrap64 (x1_1 + 1))] (by rfl) rfl rfl (by (try simp only [List.map_toArray,List.map_cons,List.map_nil]);first | done | rfl | (simp only [List.length_drop,List.length_take];rfl)) ?_;with_reducible refine (laws_markText.calls k1 (wrap64 (x1_1 + 1)) t677 _ A6.out).mono ?_
      rintro e w9 ⟨rfl,hb⟩;refine ⟨_,rfl,?_⟩;have n0_:=zMk (below_step (hs HB) hb);clear HB;have HB:=n0_;clear n0_
      (try clear hb)
      (try clear hb2)
      (try clear hk)
      (try clear hi)
      refine hK.out _ _ ⟨((HB.out.cell (zBl w _ hw676_0)).trans hw676_0),((HB.out.cell (zBl w _ hw676_1)).trans hw676_1)⟩ (fun hHeld=>?_);clear hK K;refine norm_ (a':=?_) ?_ ?_;rotate_left
      ·show Act.put _ (some 27) _ = _;simp only [Act.put,zS1,zS2,zS3,i64_w,i32_w];rfl
      refine zP 7 28 (zA 8 255) (any_of HT_.out (by kernel_rfl)) ?_;refine done_ (done_of HT_.out (by kernel_rfl)) ?_
      go_upto_if 28 with (fail)
      (try simp only [Act.put,zS1,zS2,zS3])
      by_cases c7 : ((rd_T101 l0 x5_1).f1).toList = t677.toList
      ·rw [if_pos c7] at H;have c7b0 : (((rd_T101 l0 x5_1).f1).toList == t677.toList) = true:=beq_iff_eq.mpr c7;have c7b1 : (((rd_T101 l0 x5_1).f1).toList != t677.toList) = false:=bne_eq_false_iff_eq.mpr c7;clear c7
       (first | rw [c7b0] | rw [c7b1] | (simp only [i64_w,i32_w];rw [c7b0]) | skip)
       have H':=zMk H;clear H
       try go_wp2
       go_roundg k1;case measure=>have:=HK1.out;omega
       case rel=>exact ⟨(wrap64 ((wrap64 (x1_1 + 1)) + 1)),(wrap64 (x5_1 + 1)),(by first | rfl | (simp;done) | (simp [*];done)),(by first | rfl | (simp;done) | (simp [*];done)),H',⟨by have:=HK1.out;omega⟩,⟨hs HB⟩⟩
      rw [if_neg c7] at H;have c7b0 : (((rd_T101 l0 x5_1).f1).toList == t677.toList) = false:=beq_eq_false_iff_ne.mpr c7;have c7b1 : (((rd_T101 l0 x5_1).f1).toList != t677.toList) = true:=bne_iff_ne.mpr c7
      (first | rw [c7b0] | rw [c7b1] | (simp only [i64_w,i32_w];rw [c7b0]) | skip)
      obtain rfl:=Option.some.inj H
      try go_wp2
      go_ret
      exact ⟨by first | rfl | (simp [errW_none,errW_some] <;> rfl) | (simp [*,errW_none,errW_some] <;> rfl),hs HB⟩
     rw [if_neg c5] at H;have c5b0 : (((rd_T101 l0 x5_1).f0) == x1_1) = false:=beq_eq_false_iff_ne.mpr c5;have c5b1 : (((rd_T101 l0 x5_1).f0) != x1_1) = true:=bne_iff_ne.mpr c5;obtain rfl:=Option.some.inj H;have p675 : 0 ≤ (x5_1 : Int):=zDe (by first | (with_reducible assumption) | assumption);have q675 : x5_1 < (l0.length : Int):=zDe (by first | (with_reducible assumption) | assumption);obtain ⟨ad675,e675,hx675_0,hx675_1⟩:=at_T101 HR0.out x5_1 p675 q675;cases e675;replace hx675_0:=(HB.out.cell (zBl w _ hx675_0)).trans hx675_0;replace hx675_1:=(HB.out.cell (zBl w _ hx675_1)).trans hx675_1;replace p675:=eq_true p675;replace q675:=eq_true q675
     go_wp2
     go_ret
     exact ⟨by first | rfl | (simp [errW_none,errW_some] <;> rfl) | (simp [*,errW_none,errW_some] <;> rfl),hs HB⟩
    rw [if_neg c4] at H;exact absurd H (by simp)
   rw [if_neg c3] at H;have c3b0 : decide (x5_1 < (l0.length : Int)) = false:=decide_eq_false c3;clear c3;obtain rfl:=Option.some.inj H
   go_wp2
   go_ret
   exact ⟨by first | rfl | (simp [errW_none,errW_some] <;> rfl) | (simp [*,errW_none,errW_some] <;> rfl),hs HB⟩
def laws_heldBlockS.l0 : Nat → List (S83) → Int → Int → Option (Int)
 | 0,_,_,_=>none
 | k + 1,x0,x1,x5=>if x5 < (x0.length : Int) then (if 0 ≤ x5 then (if (((rd_T83 x0 x5).f0) != ((Int.tmod x1 3) == 0)) = true then (some (-1)) else (if ((rd_T83 x0 x5).f1) = (wrap64 (x1 + 1)) then ((laws_heldLeafS.f k ((rd_T83 x0 x5).f2) (wrap64 ((wrap64 (x1 + 1)) + 1))).bind fun t681=>(if t681 < 0 then (some (-1)) else (laws_heldBlockS.l0 k x0 t681 (wrap64 (x5 + 1))))) else (some (-1)))) else (none)) else (some x1)
def laws_heldBlockS.f (k : Nat) (l0 : List (S83)) (a1 : Int) : Option (Int):=laws_heldBlockS.l0 k l0 a1 0
theorem laws_heldBlockS.mono_l : ∀ k,(∀ y0 y1 y2,LeO (laws_heldBlockS.l0 k y0 y1 y2) (laws_heldBlockS.l0 (k + 1) y0 y1 y2))
 | 0=>fun _ _ _ r h=>by simp [laws_heldBlockS.l0] at h
 | k + 1=>by
  have ih0:=laws_heldBlockS.mono_l k;intro y0 y1 y2;unfold laws_heldBlockS.l0
  repeat' first
  | (with_reducible exact ih0 _ _ _)
  | (with_reducible exact laws_heldLeafS.mono _ _ _)
  | (with_reducible exact LeO.refl _)
  | (with_reducible exact LeO.none _)
  | (with_reducible refine LeO.ite ?_ ?_)
  | (with_reducible refine LeO.bind ?_ (fun _=>?_))
  | exact ih0 _ _ _
  | exact laws_heldLeafS.mono _ _ _
  | exact LeO.none _
  | refine LeO.ite ?_ ?_
  | refine LeO.bind ?_ (fun _=>?_)
theorem laws_heldBlockS.mono : ∀ a0 a1 k,LeO (laws_heldBlockS.f k a0 a1) (laws_heldBlockS.f (k + 1) a0 a1):=by
 intro a0 a1 k;have ih0:=laws_heldBlockS.mono_l k;unfold laws_heldBlockS.f
 repeat' first
   | (with_reducible exact ih0 _ _ _)
   | (with_reducible exact laws_heldLeafS.mono _ _ _)
   | (with_reducible exact LeO.refl _)
   | (with_reducible exact LeO.none _)
   | (with_reducible refine LeO.ite ?_ ?_)
   | (with_reducible refine LeO.bind ?_ (fun _=>?_))
   | exact ih0 _ _ _
   | exact laws_heldLeafS.mono _ _ _
   | exact LeO.none _
   | refine LeO.ite ?_ ?_
   | refine LeO.bind ?_ (fun _=>?_)
set_option maxHeartbeats 8000000 in
set_option maxRecDepth 100000 in
theorem laws_heldBlockS.calls (k : Nat) (A0 : Option Addr) (c0 : Nat) (l0 : List (S83)) (a1 : Int) (r : Int) (w : World) (hr0 : Kd.C k83 w A0 l0.length l0) (hc0 : l0.length ≤ c0) (h : laws_heldBlockS.f k l0 a1 = some r) :
  Calls Try.prog 62 #[.slice A0 l0.length c0,.int .i64 a1] w fun e w'=>e = .returned (.int .i64 r) ∧ Below w.heap.size w w':=by
 have HR0:=zMk hr0;have HC0:=zMk hc0;clear hr0 hc0;have HB:=zMk (Below.refl w.heap.size w);have H : (laws_heldBlockS.l0 k l0 a1 0) = some r:=h;clear h;have H':=zMk H;clear H
 go_enter Try.func62,Try.ntmps62
 go_wp2
 go_loopg [1,5] k (fun kq v1 v5 w'=>∃ (x1_1 : Int) (x5_1 : Int),v1 = .int .i64 x1_1 ∧ v5 = .int .i64 x5_1 ∧ Aside0 (laws_heldBlockS.l0 kq l0 x1_1 x5_1 = some r) ∧ Aside0 (kq ≤ k) ∧ Aside0 (Below w.heap.size w w'));case atStart=>exact ⟨(a1),(0),(by first | rfl | (simp;done) | (simp [*];done)),(by first | rfl | (simp;done) | (simp [*];done)),H',⟨Nat.le_refl _⟩,⟨hs HB⟩⟩
 case round =>
  clear H'
  try clear p2
  obtain ⟨x1_1,x5_1,rfl,rfl,HA,HK1,HB⟩:=hrel;cases gk with
  | zero=>exact absurd HA.out (by simp [laws_heldBlockS.l0])
  | succ k1 =>
   have H:=HA.out;clear HA;simp only [laws_heldBlockS.l0] at H
   by_cases c3 : x5_1 < (l0.length : Int)
   ·rw [if_pos c3] at H;have c3b0 : decide (x5_1 < (l0.length : Int)) = true:=decide_eq_true c3;clear c3
    by_cases c4 : 0 ≤ x5_1
    ·rw [if_pos c4] at H;have c4b0 : decide (0 ≤ x5_1) = true:=decide_eq_true c4;clear c4
     by_cases c5 : (((rd_T83 l0 x5_1).f0) != ((Int.tmod x1_1 3) == 0)) = true
     ·rw [if_pos c5] at H;have c5b0 : (((rd_T83 l0 x5_1).f0) != ((Int.tmod x1_1 3) == 0)) = true:=c5
      (try (have c5b1 : decide (((rd_T83 l0 x5_1).f0) = ((Int.tmod x1_1 3) == 0)) = false:=by simpa using c5))
      (try (have c5b2 : (((rd_T83 l0 x5_1).f0) == ((Int.tmod x1_1 3) == 0)) = false:=by simpa using c5))
      (try (have c5b3 : ¬ (((rd_T83 l0 x5_1).f0) = ((Int.tmod x1_1 3) == 0)):=by simpa using c5))
      clear c5;obtain rfl:=Option.some.inj H;have p678 : 0 ≤ (x5_1 : Int):=zDe (by first | (with_reducible assumption) | assumption);have q678 : x5_1 < (l0.length : Int):=zDe (by first | (with_reducible assumption) | assumption);obtain ⟨ad678,A678_2,c678_2,e678,hx678_0,hx678_1,hx678_2,hl678_2,hi678_2⟩:=at_T83 HR0.out x5_1 p678 q678;cases e678;replace hx678_0:=(HB.out.cell (zBl w _ hx678_0)).trans hx678_0;replace hx678_1:=(HB.out.cell (zBl w _ hx678_1)).trans hx678_1;replace hx678_2:=(HB.out.cell (zBl w _ hx678_2)).trans hx678_2;have HR678_2:=zMk hi678_2;have HC678_2:=zMk hl678_2;clear hi678_2 hl678_2;replace p678:=eq_true p678;replace q678:=eq_true q678
      go_wp2
      go_ret
      exact ⟨by first | rfl | (simp [errW_none,errW_some] <;> rfl) | (simp [*,errW_none,errW_some] <;> rfl),hs HB⟩
     rw [if_neg c5] at H;have c5b0 : (((rd_T83 l0 x5_1).f0) != ((Int.tmod x1_1 3) == 0)) = false:=by simpa using c5
     (try (have c5b1 : decide (((rd_T83 l0 x5_1).f0) = ((Int.tmod x1_1 3) == 0)) = true:=by simpa using c5))
     (try (have c5b2 : (((rd_T83 l0 x5_1).f0) == ((Int.tmod x1_1 3) == 0)) = true:=by simpa using c5))
     clear c5
     by_cases c6 : ((rd_T83 l0 x5_1).f1) = (wrap64 (x1_1 + 1))
     ·rw [if_pos c6] at H;have c6b0 : (((rd_T83 l0 x5_1).f1) == (wrap64 (x1_1 + 1))) = true:=beq_iff_eq.mpr c6;have c6b1 : (((rd_T83 l0 x5_1).f1) != (wrap64 (x1_1 + 1))) = false:=bne_eq_false_iff_eq.mpr c6;clear c6;replace H:=Option.bind_eq_some_iff.mp H;obtain ⟨t681,A70,H⟩:=H;replace H : (if t681 < 0 then (some (-1)) else (laws_heldBlockS.l0 k1 l0 t681 (wrap64 (x5_1 + 1)))) = some r:=H;have A7:=zMk A70;clear A70;have p678 : 0 ≤ (x5_1 : Int):=zDe (by first | (with_reducible assumption) | assumption);have q678 : x5_1 < (l0.length : Int):=zDe (by first | (with_reducible assumption) | assumption);obtain ⟨ad678,A678_2,c678_2,e678,hx678_0,hx678_1,hx678_2,hl678_2,hi678_2⟩:=at_T83 HR0.out x5_1 p678 q678;cases e678;replace hx678_0:=(HB.out.cell (zBl w _ hx678_0)).trans hx678_0;replace hx678_1:=(HB.out.cell (zBl w _ hx678_1)).trans hx678_1;replace hx678_2:=(HB.out.cell (zBl w _ hx678_2)).trans hx678_2;have HR678_2:=zMk hi678_2;have HC678_2:=zMk hl678_2;clear hi678_2 hl678_2;replace p678:=eq_true p678;replace q678:=eq_true q678;have p679 : 0 ≤ (x5_1 : Int):=zDe (by first | (with_reducible assumption) | assumption);have q679 : x5_1 < (l0.length : Int):=zDe (by first | (with_reducible assumption) | assumption);obtain ⟨ad679,A679_2,c679_2,e679,hx679_0,hx679_1,hx679_2,hl679_2,hi679_2⟩:=at_T83 HR0.out x5_1 p679 q679;obtain rfl : ad678 = ad679:=(by injection e679);replace hx679_0:=(HB.out.cell (zBl w _ hx679_0)).trans hx679_0;replace hx679_1:=(HB.out.cell (zBl w _ hx679_1)).trans hx679_1;replace hx679_2:=(HB.out.cell (zBl w _ hx679_2)).trans hx679_2;have HR679_2:=zMk hi679_2;have HC679_2:=zMk hl679_2;clear hi679_2 hl679_2;replace p679:=eq_true p679;replace q679:=eq_true q679;have ea_:=Option.some.inj (hx678_2.symm.trans hx679_2);injection ea_ with ea_ en_ ec_;subst ea_;subst ec_;clear en_;have p680 : 0 ≤ (x5_1 : Int):=zDe (by first | (with_reducible assumption) | assumption);have q680 : x5_1 < (l0.length : Int):=zDe (by first | (with_reducible assumption) | assumption);obtain ⟨ad680,A680_2,c680_2,e680,hx680_0,hx680_1,hx680_2,hl680_2,hi680_2⟩:=at_T83 HR0.out x5_1 p680 q680;obtain rfl : ad678 = ad680:=(by injection e680);replace hx680_0:=(HB.out.cell (zBl w _ hx680_0)).trans hx680_0;replace hx680_1:=(HB.out.cell (zBl w _ hx680_1)).trans hx680_1;replace hx680_2:=(HB.out.cell (zBl w _ hx680_2)).trans hx680_2;have HR680_2:=zMk hi680_2;have HC680_2:=zMk hl680_2;clear hi680_2 hl680_2;replace p680:=eq_true p680;replace q680:=eq_true q680;have ea_:=Option.some.inj (hx678_2.symm.trans hx680_2);injection ea_ with ea_ en_ ec_;subst ea_;subst ec_;clear en_
      go_upto_if 40 with (first | ((with_reducible refine gate_callee (f:=92) rfl ?_);refine goesL_ (some 38) rfl rfl Try.func92 (by kernel_rfl) rfl #[.slice A678_2 ((rd_T83 l0 x5_1).f2).length c678_2,.int .i64 (wrap64 ((wrap64 (x1_1 + 1)) + 1))] rfl (by (try simp only [List.map_toArray,List.map_cons,List.map_nil]);first | done | rfl | (simp only [List.length_drop,List.length_take];rfl)) ?_;(with_reducible refine (laws_heldLeafS.calls k1 _ _ ((rd_T83 l0 x5_1).f2) (wrap64 ((wrap64 (x1_1 + 1)) + 1)) t681 _ ?side1 ?side2 A7.out).mono ?_);(case side1=>repeat (first | exact (Kd.C_below HR680_2.out HB.out) | (with_reducible refine Kd.C_alloc ?_ _) | (with_reducible refine Kd.C_drewN ?_ _) | (with_reducible refine Kd.C_drew ?_)));(case side2=>exact HC680_2.out);rintro e w9 ⟨rfl,hb⟩;refine ⟨_,rfl,?_⟩;have n0_:=zMk (below_step (hs HB) hb);clear HB;have HB:=n0_;clear n0_;(try clear hb);(try clear hb2);(try clear hk);(try clear hi)))
      (try simp only [Act.put,zS1,zS2,zS3])
      by_cases c8 : t681 < 0
      ·rw [if_pos c8] at H;have c8b0 : decide (t681 < 0) = true:=decide_eq_true c8;clear c8
       (first | rw [c8b0] | (simp only [i64_w,i32_w];rw [c8b0]) | skip)
       obtain rfl:=Option.some.inj H
       go_wp2
       go_ret
       exact ⟨by first | rfl | (simp [errW_none,errW_some] <;> rfl) | (simp [*,errW_none,errW_some] <;> rfl),hs HB⟩
      rw [if_neg c8] at H;have c8b0 : decide (t681 < 0) = false:=decide_eq_false c8;clear c8
      (first | rw [c8b0] | (simp only [i64_w,i32_w];rw [c8b0]) | skip)
      have H':=zMk H;clear H
      go_wp2
      go_roundg k1;case measure=>have:=HK1.out;omega
      case rel=>exact ⟨(t681),(wrap64 (x5_1 + 1)),(by first | rfl | (simp;done) | (simp [*];done)),(by first | rfl | (simp;done) | (simp [*];done)),H',⟨by have:=HK1.out;omega⟩,⟨hs HB⟩⟩
     rw [if_neg c6] at H;have c6b0 : (((rd_T83 l0 x5_1).f1) == (wrap64 (x1_1 + 1))) = false:=beq_eq_false_iff_ne.mpr c6;have c6b1 : (((rd_T83 l0 x5_1).f1) != (wrap64 (x1_1 + 1))) = true:=bne_iff_ne.mpr c6;obtain rfl:=Option.some.inj H;have p678 : 0 ≤ (x5_1 : Int):=zDe (by first | (with_reducible assumption) | assumption);have q678 : x5_1 < (l0.length : Int):=zDe (by first | (with_reducible assumption) | assumption);obtain ⟨ad678,A678_2,c678_2,e678,hx678_0,hx678_1,hx678_2,hl678_2,hi678_2⟩:=at_T83 HR0.out x5_1 p678 q678;cases e678;replace hx678_0:=(HB.out.cell (zBl w _ hx678_0)).trans hx678_0;replace hx678_1:=(HB.out.cell (zBl w _ hx678_1)).trans hx678_1;replace hx678_2:=(HB.out.cell (zBl w _ hx678_2)).trans hx678_2;have HR678_2:=zMk hi678_2;have HC678_2:=zMk hl678_2;clear hi678_2 hl678_2;replace p678:=eq_true p678;replace q678:=eq_true q678;have p679 : 0 ≤ (x5_1 : Int):=zDe (by first | (with_reducible assumption) | assumption);have q679 : x5_1 < (l0.length : Int):=zDe (by first | (with_reducible assumption) | assumption);obtain ⟨ad679,A679_2,c679_2,e679,hx679_0,hx679_1,hx679_2,hl679_2,hi679_2⟩:=at_T83 HR0.out x5_1 p679 q679;obtain rfl : ad678 = ad679:=(by injection e679);replace hx679_0:=(HB.out.cell (zBl w _ hx679_0)).trans hx679_0;replace hx679_1:=(HB.out.cell (zBl w _ hx679_1)).trans hx679_1;replace hx679_2:=(HB.out.cell (zBl w _ hx679_2)).trans hx679_2;have HR679_2:=zMk hi679_2;have HC679_2:=zMk hl679_2;clear hi679_2 hl679_2;replace p679:=eq_true p679;replace q679:=eq_true q679;have ea_:=Option.some.inj (hx678_2.symm.trans hx679_2);injection ea_ with ea_ en_ ec_;subst ea_;subst ec_;clear en_
     go_wp2
     go_ret
     exact ⟨by first | rfl | (simp [errW_none,errW_some] <;> rfl) | (simp [*,errW_none,errW_some] <;> rfl),hs HB⟩
    rw [if_neg c4] at H;exact absurd H (by simp)
   rw [if_neg c3] at H;have c3b0 : decide (x5_1 < (l0.length : Int)) = false:=decide_eq_false c3;clear c3;obtain rfl:=Option.some.inj H
   go_wp2
   go_ret
   exact ⟨by first | rfl | (simp [errW_none,errW_some] <;> rfl) | (simp [*,errW_none,errW_some] <;> rfl),hs HB⟩
def laws_heldFlash.f (k : Nat) (l0_0 : List (S83)) (a1 : Int) : Option (Int):=(laws_heldBlockS.f k l0_0 a1).bind fun t683=>(if t683 < 0 then (some (-1)) else (some t683))
theorem laws_heldFlash.mono : ∀ a0 a1 k,LeO (laws_heldFlash.f k a0 a1) (laws_heldFlash.f (k + 1) a0 a1):=by
 intro a0 a1 k;unfold laws_heldFlash.f
 repeat' first
   | (with_reducible exact laws_heldBlockS.mono _ _ _)
   | (with_reducible exact LeO.refl _)
   | (with_reducible exact LeO.none _)
   | (with_reducible refine LeO.ite ?_ ?_)
   | (with_reducible refine LeO.bind ?_ (fun _=>?_))
   | exact laws_heldBlockS.mono _ _ _
   | exact LeO.none _
   | refine LeO.ite ?_ ?_
   | refine LeO.bind ?_ (fun _=>?_)
set_option maxHeartbeats 8000000 in
set_option maxRecDepth 100000 in
theorem laws_heldFlash.calls (k : Nat) (A0_0 : Option Addr) (c0_0 : Nat) (l0_0 : List (S83)) (a1 : Int) (r : Int) (w : World) (hr0_0 : Kd.C k83 w A0_0 l0_0.length l0_0) (hc0_0 : l0_0.length ≤ c0_0) (h : laws_heldFlash.f k l0_0 a1 = some r) :
  Calls Try.prog 25 #[.agg #[.slice A0_0 l0_0.length c0_0],.int .i64 a1] w fun e w'=>e = .returned (.int .i64 r) ∧ Below w.heap.size w w':=by
 have hu52:=Try.underlying52;have HR0_0:=zMk hr0_0;have HC0_0:=zMk hc0_0;clear hr0_0 hc0_0;have HB:=zMk (Below.refl w.heap.size w);have H : ((laws_heldBlockS.f k l0_0 a1).bind fun t683=>(if t683 < 0 then (some (-1)) else (some t683))) = some r:=h;clear h;replace H:=Option.bind_eq_some_iff.mp H;obtain ⟨t683,A30,H⟩:=H;replace H : (if t683 < 0 then (some (-1)) else (some t683)) = some r:=H;have A3:=zMk A30;clear A30
 go_enter Try.func25,Try.ntmps25
 go_upto_if 10 with (first | ((with_reducible refine gate_dst (N:=2) rfl ?_);refine box_event ?hg (N:=2) ?hd (cs:=#[.slice A0_0 l0_0.length c0_0]) (t:=52) ?hr ?_;(case hd=>rfl);(case hg=>rfl);(case hr=>first | (go_simp;done) | (go_simp;rfl));intro gb682 hg w5 hbox hb;have n0_:=zMk (below_step (hs HB) hb);have n1_:=zMk (hbox);have n2_:=zMk ((by rw [hg];exact (below_size (hs HB)) : w.heap.size ≤ gb682));have n3_:=zMk ((by rw [hg];exact (below_size (hs HB)) : w.heap.size ≤ gb682));clear HB;have HB:=n0_;have BK682:=n1_;have GW682:=n2_;have GE682:=n3_;clear n0_ n1_ n2_ n3_;clear hb hbox hg;have hcz6_0 : w5.cell? ⟨gb682,0,none⟩ = some (.slice A0_0 l0_0.length c0_0):=(zCl BK682.out 0).trans rfl;have hfz6_0:=zFr BK682.out 0) | ((with_reducible refine gate_callee (f:=62) rfl ?_);refine goesL_ (some 8) rfl rfl Try.func62 (by kernel_rfl) rfl #[.slice A0_0 l0_0.length c0_0,.int .i64 a1] rfl (by (try simp only [List.map_toArray,List.map_cons,List.map_nil]);first | done | rfl | (simp only [List.length_drop,List.length_take];rfl)) ?_;(with_reducible refine (laws_heldBlockS.calls k _ _ l0_0 a1 t683 _ ?side1 ?side2 A3.out).mono ?_);(case side1=>repeat (first | exact (Kd.C_below HR0_0.out HB.out) | (with_reducible refine Kd.C_alloc ?_ _) | (with_reducible refine Kd.C_drewN ?_ _) | (with_reducible refine Kd.C_drew ?_)));(case side2=>exact HC0_0.out);rintro e w7 ⟨rfl,hb⟩;refine ⟨_,rfl,?_⟩;have n0_:=zMk (blk_below (g:=gb682) (o:=.cells #[.slice A0_0 l0_0.length c0_0] 52 (0,0)) (bs BK682) hb);have n1_:=zMk (below_step (hs1 HB GE682) hb);clear BK682;clear HB;have BK682:=n0_;have HB:=n1_;clear n0_ n1_;(try clear hb);(try clear hb2);(try clear hk);(try clear hi)))
 (try simp only [Act.put,zS1,zS2,zS3])
 by_cases c4 : t683 < 0
 ·rw [if_pos c4] at H;have c4b0 : decide (t683 < 0) = true:=decide_eq_true c4;clear c4
  (first | rw [c4b0] | (simp only [i64_w,i32_w];rw [c4b0]) | skip)
  obtain rfl:=Option.some.inj H
  go_wp2
  go_ret
  exact ⟨by first | rfl | (simp [errW_none,errW_some] <;> rfl) | (simp [*,errW_none,errW_some] <;> rfl),hs1 HB GE682⟩
 rw [if_neg c4] at H;have c4b0 : decide (t683 < 0) = false:=decide_eq_false c4;clear c4
 (first | rw [c4b0] | (simp only [i64_w,i32_w];rw [c4b0]) | skip)
 obtain rfl:=Option.some.inj H
 go_wp2
 go_ret
 exact ⟨by first | rfl | (simp [errW_none,errW_some] <;> rfl) | (simp [*,errW_none,errW_some] <;> rfl),hs1 HB GE682⟩
def laws_szStep.f (a0_0 : Int) (a0_1 : Int) (a0_2 : Int) (a0_3 : ByteArray) (a1 : Int) : Option (Int):=if (wrap64 (a1 - (a0_3.size : Int))) < 0 then (some (-1)) else (some (wrap64 (a1 - (a0_3.size : Int))))
set_option maxHeartbeats 8000000 in
set_option maxRecDepth 100000 in
theorem laws_szStep.calls (a0_0 : Int) (a0_1 : Int) (a0_2 : Int) (a0_3 : ByteArray) (a1 : Int) (r : Int) (w : World) (h : laws_szStep.f a0_0 a0_1 a0_2 a0_3 a1 = some r) :
  Calls Try.prog 18 #[.agg #[.int .i64 a0_0,.int .i64 a0_1,.int .i64 a0_2,.string a0_3],.int .i64 a1] w fun e w'=>e = .returned (.int .i64 r) ∧ Below w.heap.size w w':=by
 have hu47:=Try.underlying47;have HB:=zMk (Below.refl w.heap.size w);have H : (if (wrap64 (a1 - (a0_3.size : Int))) < 0 then (some (-1)) else (some (wrap64 (a1 - (a0_3.size : Int))))) = some r:=h;clear h
 go_enter Try.func18,Try.ntmps18
 go_upto_if 11 with (first | ((with_reducible refine gate_dst (N:=2) rfl ?_);refine box_event ?hg (N:=2) ?hd (cs:=#[.int .i64 a0_0,.int .i64 a0_1,.int .i64 a0_2,.string a0_3]) (t:=47) ?hr ?_;(case hd=>rfl);(case hg=>rfl);(case hr=>first | (go_simp;done) | (go_simp;rfl));intro gb448 hg w4 hbox hb;have n0_:=zMk (below_step (hs HB) hb);have n1_:=zMk (hbox);have n2_:=zMk ((by rw [hg];exact (below_size (hs HB)) : w.heap.size ≤ gb448));have n3_:=zMk ((by rw [hg];exact (below_size (hs HB)) : w.heap.size ≤ gb448));clear HB;have HB:=n0_;have BK448:=n1_;have GW448:=n2_;have GE448:=n3_;clear n0_ n1_ n2_ n3_;clear hb hbox hg;have hcz5_0 : w4.cell? ⟨gb448,0,none⟩ = some (.int .i64 a0_0):=(zCl BK448.out 0).trans rfl;have hcz5_1 : w4.cell? ⟨gb448,1,none⟩ = some (.int .i64 a0_1):=(zCl BK448.out 1).trans rfl;have hcz5_2 : w4.cell? ⟨gb448,2,none⟩ = some (.int .i64 a0_2):=(zCl BK448.out 2).trans rfl;have hcz5_3 : w4.cell? ⟨gb448,3,none⟩ = some (.string a0_3):=(zCl BK448.out 3).trans rfl;have hfz5_0:=zFr BK448.out 0;have hfz5_1:=zFr BK448.out 1;have hfz5_2:=zFr BK448.out 2;have hfz5_3:=zFr BK448.out 3))
 (try simp only [Act.put,zS1,zS2,zS3])
 by_cases c3 : (wrap64 (a1 - (a0_3.size : Int))) < 0
 ·rw [if_pos c3] at H;have c3b0 : decide ((wrap64 (a1 - (a0_3.size : Int))) < 0) = true:=decide_eq_true c3;clear c3
  (first | rw [c3b0] | (simp only [i64_w,i32_w];rw [c3b0]) | skip)
  obtain rfl:=Option.some.inj H
  go_wp2
  go_ret
  exact ⟨by first | rfl | (simp [errW_none,errW_some] <;> rfl) | (simp [*,errW_none,errW_some] <;> rfl),hs1 HB GE448⟩
 rw [if_neg c3] at H;have c3b0 : decide ((wrap64 (a1 - (a0_3.size : Int))) < 0) = false:=decide_eq_false c3;clear c3
 (first | rw [c3b0] | (simp only [i64_w,i32_w];rw [c3b0]) | skip)
 obtain rfl:=Option.some.inj H
 go_wp2
 go_ret
 exact ⟨by first | rfl | (simp [errW_none,errW_some] <;> rfl) | (simp [*,errW_none,errW_some] <;> rfl),hs1 HB GE448⟩
def laws_szStepS.l0 : Nat → List (S47) → Int → Int → Option (Int)
 | 0,_,_,_=>none
 | k + 1,x0,x1,x5=>if x5 < (x0.length : Int) then (if 0 ≤ x5 then ((laws_szStep.f ((rd_T47 x0 x5).f0) ((rd_T47 x0 x5).f1) ((rd_T47 x0 x5).f2) ((rd_T47 x0 x5).f3) x1).bind fun t719=>(if t719 < 0 then (some (-1)) else (laws_szStepS.l0 k x0 t719 (wrap64 (x5 + 1))))) else (none)) else (some x1)
def laws_szStepS.f (k : Nat) (l0 : List (S47)) (a1 : Int) : Option (Int):=if (wrap64 (a1 - (l0.length : Int))) < 0 then (some (-1)) else (laws_szStepS.l0 k l0 (wrap64 (a1 - (l0.length : Int))) 0)
theorem laws_szStepS.mono_l : ∀ k,(∀ y0 y1 y2,LeO (laws_szStepS.l0 k y0 y1 y2) (laws_szStepS.l0 (k + 1) y0 y1 y2))
 | 0=>fun _ _ _ r h=>by simp [laws_szStepS.l0] at h
 | k + 1=>by
  have ih0:=laws_szStepS.mono_l k;intro y0 y1 y2;unfold laws_szStepS.l0
  repeat' first
  | (with_reducible exact ih0 _ _ _)
  | (with_reducible exact LeO.refl _)
  | (with_reducible exact LeO.none _)
  | (with_reducible refine LeO.ite ?_ ?_)
  | (with_reducible refine LeO.bind ?_ (fun _=>?_))
  | exact ih0 _ _ _
  | exact LeO.none _
  | refine LeO.ite ?_ ?_
  | refine LeO.bind ?_ (fun _=>?_)
theorem laws_szStepS.mono : ∀ a0 a1 k,LeO (laws_szStepS.f k a0 a1) (laws_szStepS.f (k + 1) a0 a1):=by
 intro a0 a1 k;have ih0:=laws_szStepS.mono_l k;unfold laws_szStepS.f
 repeat' first
   | (with_reducible exact ih0 _ _ _)
   | (with_reducible exact LeO.refl _)
   | (with_reducible exact LeO.none _)
   | (with_reducible refine LeO.ite ?_ ?_)
   | (with_reducible refine LeO.bind ?_ (fun _=>?_))
   | exact ih0 _ _ _
   | exact LeO.none _
   | refine LeO.ite ?_ ?_
   | refine LeO.bind ?_ (fun _=>?_)
set_option maxHeartbeats 8000000 in
set_option maxRecDepth 100000 in
theorem laws_szStepS.calls (k : Nat) (A0 : Option Addr) (c0 : Nat) (l0 : List (S47)) (a1 : Int) (r : Int) (w : World) (hr0 : Kd.C k47 w A0 l0.length l0) (hc0 : l0.length ≤ c0) (h : laws_szStepS.f k l0 a1 = some r) :
  Calls Try.prog 26 #[.slice A0 l0.length c0,.int .i64 a1] w fun e w'=>e = .returned (.int .i64 r) ∧ Below w.heap.size w w':=by
 have hu47:=Try.underlying47;have HR0:=zMk hr0;have HC0:=zMk hc0;clear hr0 hc0;have HB:=zMk (Below.refl w.heap.size w);have H : (if (wrap64 (a1 - (l0.length : Int))) < 0 then (some (-1)) else (laws_szStepS.l0 k l0 (wrap64 (a1 - (l0.length : Int))) 0)) = some r:=h;clear h
 by_cases c3 : (wrap64 (a1 - (l0.length : Int))) < 0
 ·rw [if_pos c3] at H;have c3b0 : decide ((wrap64 (a1 - (l0.length : Int))) < 0) = true:=decide_eq_true c3;clear c3;obtain rfl:=Option.some.inj H
  go_enter Try.func26,Try.ntmps26
  go_wp2
  go_ret
  exact ⟨by first | rfl | (simp [errW_none,errW_some] <;> rfl) | (simp [*,errW_none,errW_some] <;> rfl),hs HB⟩
 rw [if_neg c3] at H;have c3b0 : decide ((wrap64 (a1 - (l0.length : Int))) < 0) = false:=decide_eq_false c3;clear c3;have H':=zMk H;clear H
 go_enter Try.func26,Try.ntmps26
 go_wp2
 go_loopg [1,5] k (fun kq v1 v5 w'=>∃ (x1_1 : Int) (x5_1 : Int),v1 = .int .i64 x1_1 ∧ v5 = .int .i64 x5_1 ∧ Aside0 (laws_szStepS.l0 kq l0 x1_1 x5_1 = some r) ∧ Aside0 (kq ≤ k) ∧ Aside0 (Below w.heap.size w w'));case atStart=>exact ⟨(wrap64 (a1 - (l0.length : Int))),(0),(by first | rfl | (simp;done) | (simp [*];done)),(by first | rfl | (simp;done) | (simp [*];done)),H',⟨Nat.le_refl _⟩,⟨hs HB⟩⟩
 case round =>
  clear H'
  try clear c2
  try clear p2
  try clear c3
  try clear c3b0
  obtain ⟨x1_1,x5_1,rfl,rfl,HA,HK1,HB⟩:=hrel;cases gk with
  | zero=>exact absurd HA.out (by simp [laws_szStepS.l0])
  | succ k1 =>
   have H:=HA.out;clear HA;simp only [laws_szStepS.l0] at H
   by_cases c4 : x5_1 < (l0.length : Int)
   ·rw [if_pos c4] at H;have c4b0 : decide (x5_1 < (l0.length : Int)) = true:=decide_eq_true c4;clear c4
    by_cases c5 : 0 ≤ x5_1
    ·rw [if_pos c5] at H;have c5b0 : decide (0 ≤ x5_1) = true:=decide_eq_true c5;clear c5;replace H:=Option.bind_eq_some_iff.mp H;obtain ⟨t719,A60,H⟩:=H;replace H : (if t719 < 0 then (some (-1)) else (laws_szStepS.l0 k1 l0 t719 (wrap64 (x5_1 + 1)))) = some r:=H;have A6:=zMk A60;clear A60;have p718 : 0 ≤ (x5_1 : Int):=zDe (by first | (with_reducible assumption) | assumption);have q718 : x5_1 < (l0.length : Int):=zDe (by first | (with_reducible assumption) | assumption);obtain ⟨ad718,e718,hx718_0,hx718_1,hx718_2,hx718_3⟩:=at_T47 HR0.out x5_1 p718 q718;cases e718;replace hx718_0:=(HB.out.cell (zBl w _ hx718_0)).trans hx718_0;replace hx718_1:=(HB.out.cell (zBl w _ hx718_1)).trans hx718_1;replace hx718_2:=(HB.out.cell (zBl w _ hx718_2)).trans hx718_2;replace hx718_3:=(HB.out.cell (zBl w _ hx718_3)).trans hx718_3;replace p718:=eq_true p718;replace q718:=eq_true q718
     go_upto_if 25 with (first | ((with_reducible refine gate_callee (f:=18) rfl ?_);refine goesL_ (some 23) rfl rfl Try.func18 (by kernel_rfl) rfl #[.agg #[.int .i64 ((rd_T47 l0 x5_1).f0),.int .i64 ((rd_T47 l0 x5_1).f1),.int .i64 ((rd_T47 l0 x5_1).f2),.string ((rd_T47 l0 x5_1).f3)],.int .i64 x1_1] rfl (by (try simp only [List.map_toArray,List.map_cons,List.map_nil]);first | done | rfl | (simp only [List.length_drop,List.length_take];rfl)) ?_;(with_reducible refine (laws_szStep.calls ((rd_T47 l0 x5_1).f0) ((rd_T47 l0 x5_1).f1) ((rd_T47 l0 x5_1).f2) ((rd_T47 l0 x5_1).f3) x1_1 t719 _ A6.out).mono ?_);rintro e w8 ⟨rfl,hb⟩;refine ⟨_,rfl,?_⟩;have n0_:=zMk (below_step (hs HB) hb);clear HB;have HB:=n0_;clear n0_;(try clear hb);(try clear hb2);(try clear hk);(try clear hi)))
     (try simp only [Act.put,zS1,zS2,zS3])
     by_cases c7 : t719 < 0
     ·rw [if_pos c7] at H;have c7b0 : decide (t719 < 0) = true:=decide_eq_true c7;clear c7
      (first | rw [c7b0] | (simp only [i64_w,i32_w];rw [c7b0]) | skip)
      obtain rfl:=Option.some.inj H
      go_wp2
      go_ret
      exact ⟨by first | rfl | (simp [errW_none,errW_some] <;> rfl) | (simp [*,errW_none,errW_some] <;> rfl),hs HB⟩
     rw [if_neg c7] at H;have c7b0 : decide (t719 < 0) = false:=decide_eq_false c7;clear c7
     (first | rw [c7b0] | (simp only [i64_w,i32_w];rw [c7b0]) | skip)
     have H':=zMk H;clear H
     go_wp2
     go_roundg k1;case measure=>have:=HK1.out;omega
     case rel=>exact ⟨(t719),(wrap64 (x5_1 + 1)),(by first | rfl | (simp;done) | (simp [*];done)),(by first | rfl | (simp;done) | (simp [*];done)),H',⟨by have:=HK1.out;omega⟩,⟨hs HB⟩⟩
    rw [if_neg c5] at H;exact absurd H (by simp)
   rw [if_neg c4] at H;have c4b0 : decide (x5_1 < (l0.length : Int)) = false:=decide_eq_false c4;clear c4;obtain rfl:=Option.some.inj H
   go_wp2
   go_ret
   exact ⟨by first | rfl | (simp [errW_none,errW_some] <;> rfl) | (simp [*,errW_none,errW_some] <;> rfl),hs HB⟩
def spec_l01In.f (a0 : Int) (a1 : Int) (a2 : Int) : Option (Bool):=if a0 ≥ a1 then (some (decide (a0 ≤ a2))) else (some false)
set_option maxHeartbeats 8000000 in
set_option maxRecDepth 100000 in
theorem spec_l01In.calls (a0 : Int) (a1 : Int) (a2 : Int) (r : Bool) (w : World) (h : spec_l01In.f a0 a1 a2 = some r) :
  Calls Try.prog 63 #[.int .i64 a0,.int .i64 a1,.int .i64 a2] w fun e w'=>e = .returned (.bool r) ∧ Drawn0 w w':=by
 have H : (if a0 ≥ a1 then (some (decide (a0 ≤ a2))) else (some false)) = some r:=h;clear h
 by_cases c4 : a0 ≥ a1
 ·rw [if_pos c4] at H;have c4b0 : decide (a1 ≤ a0) = true:=decide_eq_true c4;clear c4;obtain rfl:=Option.some.inj H
  go_enter Try.func63,Try.ntmps63
  go_wp2
  go_ret
  exact ⟨by first | rfl | (simp;done) | (simp [*];done),by repeat (first | exact Drawn0.refl _ | apply Drawn0.step)⟩
 rw [if_neg c4] at H;have c4b0 : decide (a1 ≤ a0) = false:=decide_eq_false c4;clear c4;obtain rfl:=Option.some.inj H
 go_enter Try.func63,Try.ntmps63
 go_wp2
 go_ret
 exact ⟨by first | rfl | (simp;done) | (simp [*];done),by repeat (first | exact Drawn0.refl _ | apply Drawn0.step)⟩
def spec_l05Copy.l0 : Nat → Int → List (S83) → List (S83) → Option ((List (S83)))
 | 0,_,_,_=>none
 | k + 1,x4,x450000,x452000=>if x4 < (x450000.length : Int) then (if 0 ≤ x4 then ((some (([] : List (S101)) : List (S101))).bind fun y454=>(if y454.length + ((rd_T83 x450000 x4).f2).length < 5864062014805 then (if x452000.length < 3518437208883 then (spec_l05Copy.l0 k (wrap64 (x4 + 1)) x450000 (x452000 ++ [(⟨(rd_T83 x450000 x4).f0,(rd_T83 x450000 x4).f1,(y454 ++ ((rd_T83 x450000 x4).f2))⟩ : S83)])) else (none)) else (none))) else (none)) else (some x452000)
def spec_l05Copy.f (k : Nat) (l0_0 : List (S83)) : Option ((List (S83))):=spec_l05Copy.l0 k 0 l0_0 ([] : List (S83))
theorem spec_l05Copy.mono_l : ∀ k,(∀ y0 y1 y2,LeO (spec_l05Copy.l0 k y0 y1 y2) (spec_l05Copy.l0 (k + 1) y0 y1 y2))
 | 0=>fun _ _ _ r h=>by simp [spec_l05Copy.l0] at h
 | k + 1=>by
  have ih0:=spec_l05Copy.mono_l k;intro y0 y1 y2;unfold spec_l05Copy.l0
  repeat' first
  | (with_reducible exact ih0 _ _ _)
  | (with_reducible exact LeO.refl _)
  | (with_reducible exact LeO.none _)
  | (with_reducible refine LeO.ite ?_ ?_)
  | (with_reducible refine LeO.bind ?_ (fun _=>?_))
  | exact ih0 _ _ _
  | exact LeO.none _
  | refine LeO.ite ?_ ?_
  | refine LeO.bind ?_ (fun _=>?_)
theorem spec_l05Copy.mono : ∀ a0 k,LeO (spec_l05Copy.f k a0) (spec_l05Copy.f (k + 1) a0):=by
 intro a0 k;have ih0:=spec_l05Copy.mono_l k;unfold spec_l05Copy.f
 repeat' first
   | (with_reducible exact ih0 _ _ _)
   | (with_reducible exact LeO.refl _)
   | (with_reducible exact LeO.none _)
   | (with_reducible refine LeO.ite ?_ ?_)
   | (with_reducible refine LeO.bind ?_ (fun _=>?_))
   | exact ih0 _ _ _
   | exact LeO.none _
   | refine LeO.ite ?_ ?_
   | refine LeO.bind ?_ (fun _=>?_)
set_option maxHeartbeats 8000000 in
set_option maxRecDepth 100000 in
theorem spec_l05Copy.calls (k : Nat) (A0_0 : Option Addr) (c0_0 : Nat) (l0_0 : List (S83)) (r : List (S83)) (w : World) (hr0_0 : Kd.C k83 w A0_0 l0_0.length l0_0) (hc0_0 : l0_0.length ≤ c0_0) (h : spec_l05Copy.f k l0_0 = some r) :
  Calls Try.prog 56 #[.agg #[.slice A0_0 l0_0.length c0_0]] w fun e w'=>∃ v0_ : Value,e = .returned (.agg #[v0_]) ∧ Kd.S k83 83 w' w.heap.size (fun _=>True) v0_ r ∧ Below w.heap.size w w':=by
 have hu52:=Try.underlying52;have hu83:=Try.underlying83;have HR0_0:=zMk hr0_0;have HC0_0:=zMk hc0_0;clear hr0_0 hc0_0;have HB:=zMk (Below.refl w.heap.size w);have H : (spec_l05Copy.l0 k 0 l0_0 ([] : List (S83))) = some r:=h;clear h;have H':=zMk H;clear H
 go_enter Try.func56,Try.ntmps56
 go_wp2_with (first | ((with_reducible refine gate_dst (N:=1) rfl ?_);refine box_event ?hg (N:=1) ?hd (cs:=#[.slice A0_0 l0_0.length c0_0]) (t:=52) ?hr ?_;(case hd=>rfl);(case hg=>rfl);(case hr=>first | (go_simp;done) | (go_simp;rfl));intro gb449 hg w2 hbox hb;have n0_:=zMk (below_step (hs HB) hb);have n1_:=zMk (hbox);have n2_:=zMk ((by rw [hg];exact (below_size (hs HB)) : w.heap.size ≤ gb449));have n3_:=zMk ((by rw [hg];exact (below_size (hs HB)) : w.heap.size ≤ gb449));clear HB;have HB:=n0_;have BK449:=n1_;have GW449:=n2_;have GE449:=n3_;clear n0_ n1_ n2_ n3_;clear hb hbox hg) | ((with_reducible refine gate_dst (N:=2) rfl ?_);refine box_event ?hg (N:=2) ?hd (cs:=#[.slice none 0 0]) (t:=52) ?hr ?_;(case hd=>rfl);(case hg=>rfl);(case hr=>first | (go_simp;done) | (go_simp;rfl));intro gb450 hg w3 hbox hb;have n0_:=zMk (blk_below (g:=gb449) (o:=.cells #[.slice A0_0 l0_0.length c0_0] 52 (0,0)) (bs BK449) hb);have n1_:=zMk (below_step (hs1 HB GE449) hb);have n2_:=zMk (hbox);have n3_:=zMk ((by rw [hg];exact (below_size (hs1 HB GE449)) : w.heap.size ≤ gb450));have n4_:=zMk ((by rw [hg];exact (below_size (hs1 HB GE449)) : w.heap.size ≤ gb450));have n5_:=zMk ((by rw [hg];exact Nat.ne_of_lt (blk_lt (g:=gb449) (o:=.cells #[.slice A0_0 l0_0.length c0_0] 52 (0,0)) (bs BK449)) : gb449 ≠ gb450));have n6_:=zMk ((by rw [hg];exact Nat.ne_of_gt (blk_lt (g:=gb449) (o:=.cells #[.slice A0_0 l0_0.length c0_0] 52 (0,0)) (bs BK449)) : gb450 ≠ gb449));clear BK449;clear HB;have BK449:=n0_;have HB:=n1_;have BK450:=n2_;have GW450:=n3_;have GE450:=n4_;have NB449_450:=n5_;have NB450_449:=n6_;clear n0_ n1_ n2_ n3_ n4_ n5_ n6_;clear hb hbox hg) | ((with_reducible refine gate_dst (N:=3) rfl ?_);refine box_event ?hg (N:=3) ?hd (cs:=#[.slice none 0 0]) (t:=52) ?hr ?_;(case hd=>rfl);(case hg=>rfl);(case hr=>first | (go_simp;done) | (go_simp;rfl));intro gb451 hg w4 hbox hb;have n0_:=zMk (blk_below (g:=gb449) (o:=.cells #[.slice A0_0 l0_0.length c0_0] 52 (0,0)) (bs BK449) hb);have n1_:=zMk (blk_below (g:=gb450) (o:=.cells #[.slice none 0 0] 52 (0,0)) (bs BK450) hb);have n2_:=zMk (below_step (hs2 HB GE449 GE450) hb);have n3_:=zMk (hbox);have n4_:=zMk ((by rw [hg];exact (below_size (hs2 HB GE449 GE450)) : w.heap.size ≤ gb451));have n5_:=zMk ((by rw [hg];exact (below_size (hs2 HB GE449 GE450)) : w.heap.size ≤ gb451));have n6_:=zMk ((by rw [hg];exact Nat.ne_of_lt (blk_lt (g:=gb449) (o:=.cells #[.slice A0_0 l0_0.length c0_0] 52 (0,0)) (bs BK449)) : gb449 ≠ gb451));have n7_:=zMk ((by rw [hg];exact Nat.ne_of_gt (blk_lt (g:=gb449) (o:=.cells #[.slice A0_0 l0_0.length c0_0] 52 (0,0)) (bs BK449)) : gb451 ≠ gb449));have n8_:=zMk ((by rw [hg];exact Nat.ne_of_lt (blk_lt (g:=gb450) (o:=.cells #[.slice none 0 0] 52 (0,0)) (bs BK450)) : gb450 ≠ gb451));have n9_:=zMk ((by rw [hg];exact Nat.ne_of_gt (blk_lt (g:=gb450) (o:=.cells #[.slice none 0 0] 52 (0,0)) (bs BK450)) : gb451 ≠ gb450));clear BK449;clear BK450;clear HB;have BK449:=n0_;have BK450:=n1_;have HB:=n2_;have BK451:=n3_;have GW451:=n4_;have GE451:=n5_;have NB449_451:=n6_;have NB451_449:=n7_;have NB450_451:=n8_;have NB451_450:=n9_;clear n0_ n1_ n2_ n3_ n4_ n5_ n6_ n7_ n8_ n9_;clear hb hbox hg;have hnb5:=NB451_449.out;have hnc5:=NB449_451.out;have hnb6:=NB451_450.out;have hnc6:=NB450_451.out;have hcz7_0 : w4.cell? ⟨gb451,0,none⟩ = some (.slice none 0 0):=(zCl BK451.out 0).trans rfl;have hfz7_0:=zFr BK451.out 0));go_loopg [4] k (fun kq v4 w'=>∃ (x4_1 : Int) (x452000_1 : List (S83)) (u452000 : Value),v4 = .int .i64 x4_1 ∧ Aside0 (spec_l05Copy.l0 kq x4_1 l0_0 x452000_1 = some r) ∧ Aside0 (kq ≤ k) ∧ Aside0 (Kd.S k83 83 w' w.heap.size (fun _=>True) u452000 x452000_1) ∧ Aside0 (w'.heap[gb449]? = some (.cells #[(.slice A0_0 l0_0.length c0_0)] 52 (0,0))) ∧ Aside0 (w'.heap[gb450]? = some (.cells #[(.slice none 0 0)] 52 (0,0))) ∧ Aside0 (w'.heap[gb451]? = some (.cells #[u452000] 52 (0,0))) ∧ Aside0 (Below w.heap.size w w'));case atStart=>exact ⟨(0),(([] : List (S83))),(.slice none 0 0),(by first | rfl | (simp;done) | (simp [*];done)),H',⟨Nat.le_refl _⟩,⟨by first | exact Kd.S_nil _ _ _ _ _ | exact Kd.N_nil _ _ _ _ _ | exact Kd.V_nil _ _ _ _ _ | exact Kd.Q_nil _ _ _ _ _ | exact Kd.R_nil _ _ _ _ _⟩,⟨by (with_reducible repeat (first | refine blk_drewN ?_ _ | refine blk_drew ?_ | refine blk_alloc ?_ _));refine blk_far ?_ NB449_451.out _;(with_reducible repeat (first | refine blk_drewN ?_ _ | refine blk_drew ?_ | refine blk_alloc ?_ _));exact BK449.out⟩,⟨by (with_reducible repeat (first | refine blk_drewN ?_ _ | refine blk_drew ?_ | refine blk_alloc ?_ _));refine blk_far ?_ NB450_451.out _;(with_reducible repeat (first | refine blk_drewN ?_ _ | refine blk_drew ?_ | refine blk_alloc ?_ _));exact BK450.out⟩,⟨by (with_reducible repeat (first | refine blk_drewN ?_ _ | refine blk_drew ?_ | refine blk_alloc ?_ _));refine blk_put (cs:=#[.slice none 0 0]) ?_ 0 _ rfl;(with_reducible repeat (first | refine blk_drewN ?_ _ | refine blk_drew ?_ | refine blk_alloc ?_ _));exact BK451.out⟩,⟨hs3 HB GE449 GE450 GE451⟩⟩
 case round =>
  clear H'
  try clear p2
  try clear c5
  try clear c6
  try clear hcz7_0
  try clear hfz7_0
  obtain ⟨x4_1,x452000_1,u452000,rfl,HA,HK1,HO_452000,BK449,BK450,BK451,HB⟩:=hrel;cases gk with
  | zero=>exact absurd HA.out (by simp [spec_l05Copy.l0])
  | succ k1 =>
   have H:=HA.out;clear HA;simp only [spec_l05Copy.l0] at H
   by_cases c8 : x4_1 < (l0_0.length : Int)
   ·rw [if_pos c8] at H;have c8b0 : decide (x4_1 < (l0_0.length : Int)) = true:=decide_eq_true c8;clear c8
    by_cases c9 : 0 ≤ x4_1
    ·rw [if_pos c9] at H;have c9b0 : decide (0 ≤ x4_1) = true:=decide_eq_true c9;clear c9;obtain ⟨y454,hy454⟩ : ∃ y_ : List (S101),y_ = (([] : List (S101))):=⟨_,rfl⟩;replace H : (if y454.length + ((rd_T83 l0_0 x4_1).f2).length < 5864062014805 then (if x452000_1.length < 3518437208883 then (spec_l05Copy.l0 k1 (wrap64 (x4_1 + 1)) l0_0 (x452000_1 ++ [(⟨(rd_T83 l0_0 x4_1).f0,(rd_T83 l0_0 x4_1).f1,(y454 ++ ((rd_T83 l0_0 x4_1).f2))⟩ : S83)])) else (none)) else (none)) = some r:=by first | (rw [hy454];with_reducible exact H) | (have H2_:=(Option.bind_some _ _).symm.trans H;rw [hy454];with_reducible exact H2_) | (have H2_:=(Option.bind_some _ _).symm.trans H;with_reducible exact H2_) | with_reducible exact H | (rw [hy454];exact H) | exact H
     have Ny454:=zMk hy454;clear hy454
     by_cases c10 : y454.length + ((rd_T83 l0_0 x4_1).f2).length < 5864062014805
     ·rw [if_pos c10] at H;have LMc10:=zMk c10;clear c10;obtain ⟨y457,hy457⟩ : ∃ y_ : List (S101),y_ = (y454 ++ ((rd_T83 l0_0 x4_1).f2)):=⟨_,rfl⟩;replace H : (if x452000_1.length < 3518437208883 then (spec_l05Copy.l0 k1 (wrap64 (x4_1 + 1)) l0_0 (x452000_1 ++ [(⟨(rd_T83 l0_0 x4_1).f0,(rd_T83 l0_0 x4_1).f1,y457⟩ : S83)])) else (none)) = some r:=by first | (rw [hy457];with_reducible exact H) | (have H2_:=(Option.bind_some _ _).symm.trans H;rw [hy457];with_reducible exact H2_) | (have H2_:=(Option.bind_some _ _).symm.trans H;with_reducible exact H2_) | with_reducible exact H | (rw [hy457];exact H) | exact H
      have Ny457:=zMk hy457;clear hy457
      by_cases c11 : x452000_1.length < 3518437208883
      ·rw [if_pos c11] at H;have LMc11:=zMk c11;clear c11;obtain ⟨y460,hy460⟩ : ∃ y_ : List (S83),y_ = (x452000_1 ++ [(⟨(rd_T83 l0_0 x4_1).f0,(rd_T83 l0_0 x4_1).f1,y457⟩ : S83)]):=⟨_,rfl⟩;replace H : (spec_l05Copy.l0 k1 (wrap64 (x4_1 + 1)) l0_0 y460) = some r:=by first | (rw [hy460];with_reducible exact H) | (have H2_:=(Option.bind_some _ _).symm.trans H;rw [hy460];with_reducible exact H2_) | (have H2_:=(Option.bind_some _ _).symm.trans H;with_reducible exact H2_) | with_reducible exact H | (rw [hy460];exact H) | exact H
       have Ny460:=zMk hy460;clear hy460;have H':=zMk H;clear H;have hnb12:=NB449_450.out;have hnc12:=NB450_449.out;have hnb13:=NB449_451.out;have hnc13:=NB451_449.out;have hcz14_0 : wr.cell? ⟨gb449,0,none⟩ = some (.slice A0_0 l0_0.length c0_0):=(zCl BK449.out 0).trans rfl;have hfz14_0:=zFr BK449.out 0;have p452 : 0 ≤ (x4_1 : Int):=zDe (by first | (with_reducible assumption) | assumption);have q452 : x4_1 < (l0_0.length : Int):=zDe (by first | (with_reducible assumption) | assumption);obtain ⟨ad452,A452_2,c452_2,e452,hx452_0,hx452_1,hx452_2,hl452_2,hi452_2⟩:=at_T83 HR0_0.out x4_1 p452 q452;cases e452;replace hx452_0:=(HB.out.cell (zBl w _ hx452_0)).trans hx452_0;replace hx452_1:=(HB.out.cell (zBl w _ hx452_1)).trans hx452_1;replace hx452_2:=(HB.out.cell (zBl w _ hx452_2)).trans hx452_2;have HR452_2:=zMk hi452_2;have HC452_2:=zMk hl452_2;clear hi452_2 hl452_2;replace p452:=eq_true p452;replace q452:=eq_true q452;go_wp2_with (first | ((with_reducible refine gate_dst (N:=5) rfl ?_);refine box_event ?hg (N:=5) ?hd (cs:=#[.bool false,.int .i64 0,.slice none 0 0]) (t:=83) ?hr ?_;(case hd=>rfl);(case hg=>rfl);(case hr=>first | (go_simp;done) | (go_simp;rfl));intro gb453 hg w15 hbox hb;have n0_:=zMk (Kd.S_below (Kd.S_elderB (ss HO_452000) gb453 (Nat.le_of_eq hg.symm)) hb);have n1_:=zMk (blk_below (g:=gb449) (o:=.cells #[.slice (some ad452) l0_0.length c0_0] 52 (0,0)) (bs BK449) hb);have n2_:=zMk (blk_below (g:=gb450) (o:=.cells #[.slice none 0 0] 52 (0,0)) (bs BK450) hb);have n3_:=zMk (blk_below (g:=gb451) (o:=.cells #[u452000] 52 (0,0)) (bs BK451) hb);have n4_:=zMk (below_step (hs3 HB GE449 GE450 GE451) hb);have n5_:=zMk (hbox);have n6_:=zMk ((by rw [hg];exact (below_size (hs3 HB GE449 GE450 GE451)) : w.heap.size ≤ gb453));have n7_:=zMk ((by rw [hg];exact (below_size (hs3 HB GE449 GE450 GE451)) : w.heap.size ≤ gb453));have n8_:=zMk ((by rw [hg];exact Nat.ne_of_lt (blk_lt (g:=gb449) (o:=.cells #[.slice (some ad452) l0_0.length c0_0] 52 (0,0)) (bs BK449)) : gb449 ≠ gb453));have n9_:=zMk ((by rw [hg];exact Nat.ne_of_gt (blk_lt (g:=gb449) (o:=.cells #[.slice (some ad452) l0_0.length c0_0] 52 (0,0)) (bs BK449)) : gb453 ≠ gb449));have n10_:=zMk ((by rw [hg];exact Nat.ne_of_lt (blk_lt (g:=gb450) (o:=.cells #[.slice none 0 0] 52 (0,0)) (bs BK450)) : gb450 ≠ gb453));have n11_:=zMk ((by rw [hg];exact Nat.ne_of_gt (blk_lt (g:=gb450) (o:=.cells #[.slice none 0 0] 52 (0,0)) (bs BK450)) : gb453 ≠ gb450));have n12_:=zMk ((by rw [hg];exact Nat.ne_of_lt (blk_lt (g:=gb451) (o:=.cells #[u452000] 52 (0,0)) (bs BK451)) : gb451 ≠ gb453));have n13_:=zMk ((by rw [hg];exact Nat.ne_of_gt (blk_lt (g:=gb451) (o:=.cells #[u452000] 52 (0,0)) (bs BK451)) : gb453 ≠ gb451));clear HO_452000;clear BK449;clear BK450;clear BK451;clear HB;have HO_452000:=n0_;have BK449:=n1_;have BK450:=n2_;have BK451:=n3_;have HB:=n4_;have BK453:=n5_;have GW453:=n6_;have GE453:=n7_;have NB449_453:=n8_;have NB453_449:=n9_;have NB450_453:=n10_;have NB453_450:=n11_;have NB451_453:=n12_;have NB453_451:=n13_;clear n0_ n1_ n2_ n3_ n4_ n5_ n6_ n7_ n8_ n9_ n10_ n11_ n12_ n13_;clear hb hbox hg;have hnb16:=NB453_449.out;have hnc16:=NB449_453.out;have hnb17:=NB453_450.out;have hnc17:=NB450_453.out;have hnb18:=NB453_451.out;have hnc18:=NB451_453.out;have hcz19_0 : w15.cell? ⟨gb453,0,none⟩ = some (.bool false):=(zCl BK453.out 0).trans rfl;have hcz19_1 : w15.cell? ⟨gb453,1,none⟩ = some (.int .i64 0):=(zCl BK453.out 1).trans rfl;have hcz19_2 : w15.cell? ⟨gb453,2,none⟩ = some (.slice none 0 0):=(zCl BK453.out 2).trans rfl;have hfz19_0:=zFr BK453.out 0;have hfz19_1:=zFr BK453.out 1;have hfz19_2:=zFr BK453.out 2) | ((with_reducible refine gate_dst (N:=19) rfl ?_);refine Kd.R_lit k101 _ 101 ?hg (N:=19) ?hd (xs:=([] : List (S101))) (inner:=[]) (ok:=fun _=>True) (okp:=fun _=>True) ?hr ?hp (fun _ hk=>hk) trivial (Below.refl _ _) (Nat.le_refl _) (by simp) ?_;(case hd=>rfl);(case hg=>rfl);(case hr=>first | (go_simp;done) | (go_simp;rfl));(case hp=>exact (Reps.none _ _));intro v455 w20 ho21 hb hg_ hnew_;clear hg_ hnew_;(first | rw [← Ny454.out] at ho21 | (simp only [Int.reduceToNat] at ho21;rw [← Ny454.out] at ho21));have n0_:=zMk (Kd.S_elder' (by (with_reducible repeat (first | apply Kd.S_alloc | apply Kd.S_drewN | apply Kd.S_drew));exact (Kd.S_mono (Kd.S_far (p:=⟨gb453,2,none⟩) (Kd.S_far (p:=⟨gb453,1,none⟩) (Kd.S_far (p:=⟨gb453,0,none⟩) (Kd.S_mono HO_452000.out (fun k_ hk=>(⟨hk,hk.2⟩ : _ ∧ k_ ≠ gb453))) (fun _ hk=>hk.2) (.bool ((rd_T83 l0_0 x4_1).f0))) (fun _ hk=>hk.2) (.int .i64 ((rd_T83 l0_0 x4_1).f1))) (fun _ hk=>hk.2) (.slice A452_2 ((rd_T83 l0_0 x4_1).f2).length c452_2)) (fun _ h_=>h_.1))) (Kd.R_base ho21) hb);have n1_:=zMk (Kd.R_lower ho21 (below_size (hs4 HB GE449 GE450 GE451 GE453)));have n2_:=zMk (blk_below (g:=gb449) (o:=.cells #[.slice (some ad452) l0_0.length c0_0] 52 (0,0)) (by (with_reducible repeat (first | refine blk_drewN ?_ _ | refine blk_drew ?_ | refine blk_alloc ?_ _));refine blk_far ?_ NB449_453.out _;(with_reducible repeat (first | refine blk_drewN ?_ _ | refine blk_drew ?_ | refine blk_alloc ?_ _));refine blk_far ?_ NB449_453.out _;(with_reducible repeat (first | refine blk_drewN ?_ _ | refine blk_drew ?_ | refine blk_alloc ?_ _));refine blk_far ?_ NB449_453.out _;(with_reducible repeat (first | refine blk_drewN ?_ _ | refine blk_drew ?_ | refine blk_alloc ?_ _));exact BK449.out) hb);have n3_:=zMk (blk_below (g:=gb450) (o:=.cells #[.slice none 0 0] 52 (0,0)) (by (with_reducible repeat (first | refine blk_drewN ?_ _ | refine blk_drew ?_ | refine blk_alloc ?_ _));refine blk_far ?_ NB450_453.out _;(with_reducible repeat (first | refine blk_drewN ?_ _ | refine blk_drew ?_ | refine blk_alloc ?_ _));refine blk_far ?_ NB450_453.out _;(with_reducible repeat (first | refine blk_drewN ?_ _ | refine blk_drew ?_ | refine blk_alloc ?_ _));refine blk_far ?_ NB450_453.out _;(with_reducible repeat (first | refine blk_drewN ?_ _ | refine blk_drew ?_ | refine blk_alloc ?_ _));exact BK450.out) hb);have n4_:=zMk (blk_below (g:=gb451) (o:=.cells #[u452000] 52 (0,0)) (by (with_reducible repeat (first | refine blk_drewN ?_ _ | refine blk_drew ?_ | refine blk_alloc ?_ _));refine blk_far ?_ NB451_453.out _;(with_reducible repeat (first | refine blk_drewN ?_ _ | refine blk_drew ?_ | refine blk_alloc ?_ _));refine blk_far ?_ NB451_453.out _;(with_reducible repeat (first | refine blk_drewN ?_ _ | refine blk_drew ?_ | refine blk_alloc ?_ _));refine blk_far ?_ NB451_453.out _;(with_reducible repeat (first | refine blk_drewN ?_ _ | refine blk_drew ?_ | refine blk_alloc ?_ _));exact BK451.out) hb);have n5_:=zMk (blk_below (g:=gb453) (o:=.cells #[.bool ((rd_T83 l0_0 x4_1).f0),.int .i64 ((rd_T83 l0_0 x4_1).f1),.slice A452_2 ((rd_T83 l0_0 x4_1).f2).length c452_2] 83 (0,0)) (by (with_reducible repeat (first | refine blk_drewN ?_ _ | refine blk_drew ?_ | refine blk_alloc ?_ _));refine blk_put (cs:=#[.bool ((rd_T83 l0_0 x4_1).f0),.int .i64 ((rd_T83 l0_0 x4_1).f1),.slice none 0 0]) ?_ 2 _ rfl;(with_reducible repeat (first | refine blk_drewN ?_ _ | refine blk_drew ?_ | refine blk_alloc ?_ _));refine blk_put (cs:=#[.bool ((rd_T83 l0_0 x4_1).f0),.int .i64 0,.slice none 0 0]) ?_ 1 _ rfl;(with_reducible repeat (first | refine blk_drewN ?_ _ | refine blk_drew ?_ | refine blk_alloc ?_ _));refine blk_put (cs:=#[.bool false,.int .i64 0,.slice none 0 0]) ?_ 0 _ rfl;(with_reducible repeat (first | refine blk_drewN ?_ _ | refine blk_drew ?_ | refine blk_alloc ?_ _));exact BK453.out) hb);have n6_:=zMk (below_step (hs4 HB GE449 GE450 GE451 GE453) hb);clear HO_452000;clear BK449;clear BK450;clear BK451;clear BK453;clear HB;have HO_452000:=n0_;have HO456:=n1_;have BK449:=n2_;have BK450:=n3_;have BK451:=n4_;have BK453:=n5_;have HB:=n6_;clear n0_ n1_ n2_ n3_ n4_ n5_ n6_;clear hb ho21;have hcz22_0 : w20.cell? ⟨gb453,0,none⟩ = some (.bool ((rd_T83 l0_0 x4_1).f0)):=(zCl BK453.out 0).trans rfl;have hcz22_1 : w20.cell? ⟨gb453,1,none⟩ = some (.int .i64 ((rd_T83 l0_0 x4_1).f1)):=(zCl BK453.out 1).trans rfl;have hcz22_2 : w20.cell? ⟨gb453,2,none⟩ = some (.slice A452_2 ((rd_T83 l0_0 x4_1).f2).length c452_2):=(zCl BK453.out 2).trans rfl;have hfz22_0:=zFr BK453.out 0;have hfz22_1:=zFr BK453.out 1;have hfz22_2:=zFr BK453.out 2) | ((with_reducible refine gate_builtin (b:=.append) (xs:=#[(.tmp 19),.tmp 21]) rfl ?_);at_builtin;refine Kd.R_append_rows k101 (w0:=w) w.heap.size rfl (.tmp 19) (.tmp 21) 81 101 (.agg #[(.int .i64 0),(.string ⟨#[]⟩)]) 24 rfl Try.underlying81 info101 rfl (by decide) (by omega) v455 y454 ((rd_T83 l0_0 x4_1).f2) _ _ _ (fun _=>True) (fun _=>False) rfl rfl ?aO ?aR (fun _ _ h=>h) (fun _ h=>h.elim) ?aF ?aB ?aS ?aL ?_;(case aR=>repeat (first | exact (Kd.C_below HR452_2.out HB.out) | (with_reducible refine Kd.C_alloc ?_ _) | (with_reducible refine Kd.C_drewN ?_ _) | (with_reducible refine Kd.C_drew ?_)));(case aB=>exact (hs4 HB GE449 GE450 GE451 GE453));(case aF=>exact (fun _ _=>trivial));(case aO=>exact (rs HO456));(case aS=>exact (below_size (hs4 HB GE449 GE450 GE451 GE453)));(case aL=>have:=LMc10.out;omega);intro v458 w23 ho hb hg hat;rw [← Ny457.out] at ho;have n0_:=zMk (Kd.S_after (ok:=(fun k_=>k_ ≠ gb453)) (by (with_reducible repeat (first | apply Kd.S_alloc | apply Kd.S_drewN | apply Kd.S_drew));exact Kd.S_mono HO_452000.out (fun _ hk=>⟨hk.1.2,hk.2⟩)) hg hat);have n1_:=zMk (blk_grown (g:=gb449) (o:=.cells #[.slice (some ad452) l0_0.length c0_0] 52 (0,0)) (bs BK449) hg (Kd.R_ne HO456.out BK449.out (by decide)));have n2_:=zMk (blk_grown (g:=gb450) (o:=.cells #[.slice none 0 0] 52 (0,0)) (bs BK450) hg (Kd.R_ne HO456.out BK450.out (by decide)));have n3_:=zMk (blk_grown (g:=gb451) (o:=.cells #[u452000] 52 (0,0)) (bs BK451) hg (Kd.R_ne HO456.out BK451.out (by decide)));have n4_:=zMk (blk_grown (g:=gb453) (o:=.cells #[.bool ((rd_T83 l0_0 x4_1).f0),.int .i64 ((rd_T83 l0_0 x4_1).f1),.slice A452_2 ((rd_T83 l0_0 x4_1).f2).length c452_2] 83 (0,0)) (bs BK453) hg (Kd.R_ne HO456.out BK453.out (by decide)));have n5_:=zMk (hb);have n6_:=zMk (ho);clear HO_452000;clear BK449;clear BK450;clear BK451;clear BK453;clear HB;clear HO456;have HO_452000:=n0_;have BK449:=n1_;have BK450:=n2_;have BK451:=n3_;have BK453:=n4_;have HB:=n5_;have HO459:=n6_;clear n0_ n1_ n2_ n3_ n4_ n5_ n6_;clear ho hb hg hat;obtain ⟨Ao24,co24,eo24⟩:=Kd.R_slice HO459.out;subst eo24;have hcz25_0 : w23.cell? ⟨gb453,0,none⟩ = some (.bool ((rd_T83 l0_0 x4_1).f0)):=(zCl BK453.out 0).trans rfl;have hcz25_1 : w23.cell? ⟨gb453,1,none⟩ = some (.int .i64 ((rd_T83 l0_0 x4_1).f1)):=(zCl BK453.out 1).trans rfl;have hcz25_2 : w23.cell? ⟨gb453,2,none⟩ = some (.slice A452_2 ((rd_T83 l0_0 x4_1).f2).length c452_2):=(zCl BK453.out 2).trans rfl;have hfz25_0:=zFr BK453.out 0;have hfz25_1:=zFr BK453.out 1;have hfz25_2:=zFr BK453.out 2) | ((with_reducible refine gate_store (t:=81) (p:=23) rfl ?_);refine store_event (t:=81) (p:=23) (v:=?vo_w26) (w1:=(w23.setCell ⟨gb453,2,none⟩ (.slice Ao24 y457.length co24))) ?hg ?ho ?hn ?hr ?_;(case ho=>rfl);(case hg=>rfl);(case hn=>rfl);(case hr=>first | (go_simp;done) | (go_simp;rfl));intro w26 hw;have n0_ : Aside0 (Kd.S k83 83 w26 w.heap.size (fun k_=>some k_ ≠ (.slice Ao24 y457.length co24 : Value).ownBlock ∧ k_ ≠ gb453) u452000 x452000_1):=⟨(by rw [hw];exact (by (with_reducible repeat (first | apply Kd.S_alloc | apply Kd.S_drewN | apply Kd.S_drew));exact Kd.S_mono (Kd.S_far (p:=⟨gb453,2,none⟩) (Kd.S_mono HO_452000.out (fun k_ hk=>(⟨hk,hk.1⟩ : _ ∧ k_ ≠ gb453))) (fun _ hk=>hk.2) (.slice Ao24 y457.length co24)) (fun _ hk=>⟨hk.1.2,hk.1.1⟩)))⟩;have n1_ : Aside0 (Kd.R k101 101 w26 w.heap.size (fun _=>True) (.slice Ao24 y457.length co24) y457):=⟨(by rw [hw];exact (by (with_reducible repeat (first | apply Kd.R_alloc | apply Kd.R_drewN | apply Kd.R_drew));exact Kd.R_mono (Kd.R_far (p:=⟨gb453,2,none⟩) (Kd.R_types HO459.out BK453.out (by decide)) (fun _ hk=>hk.2) (.slice Ao24 y457.length co24)) (fun _ hk=>trivial)))⟩;have n2_ : Aside0 (w26.heap[gb449]? = some (.cells #[.slice (some ad452) l0_0.length c0_0] 52 (0,0))):=⟨(by rw [hw];exact (by (with_reducible repeat (first | refine blk_drewN ?_ _ | refine blk_drew ?_ | refine blk_alloc ?_ _));refine blk_far ?_ NB449_453.out _;(with_reducible repeat (first | refine blk_drewN ?_ _ | refine blk_drew ?_ | refine blk_alloc ?_ _));exact BK449.out))⟩;have n3_ : Aside0 (w26.heap[gb450]? = some (.cells #[.slice none 0 0] 52 (0,0))):=⟨(by rw [hw];exact (by (with_reducible repeat (first | refine blk_drewN ?_ _ | refine blk_drew ?_ | refine blk_alloc ?_ _));refine blk_far ?_ NB450_453.out _;(with_reducible repeat (first | refine blk_drewN ?_ _ | refine blk_drew ?_ | refine blk_alloc ?_ _));exact BK450.out))⟩;have n4_ : Aside0 (w26.heap[gb451]? = some (.cells #[u452000] 52 (0,0))):=⟨(by rw [hw];exact (by (with_reducible repeat (first | refine blk_drewN ?_ _ | refine blk_drew ?_ | refine blk_alloc ?_ _));refine blk_far ?_ NB451_453.out _;(with_reducible repeat (first | refine blk_drewN ?_ _ | refine blk_drew ?_ | refine blk_alloc ?_ _));exact BK451.out))⟩;have n5_ : Aside0 (w26.heap[gb453]? = some (.cells #[.bool ((rd_T83 l0_0 x4_1).f0),.int .i64 ((rd_T83 l0_0 x4_1).f1),.slice Ao24 y457.length co24] 83 (0,0))):=⟨(by rw [hw];exact (by (with_reducible repeat (first | refine blk_drewN ?_ _ | refine blk_drew ?_ | refine blk_alloc ?_ _));refine blk_put (cs:=#[.bool ((rd_T83 l0_0 x4_1).f0),.int .i64 ((rd_T83 l0_0 x4_1).f1),.slice A452_2 ((rd_T83 l0_0 x4_1).f2).length c452_2]) ?_ 2 _ rfl;(with_reducible repeat (first | refine blk_drewN ?_ _ | refine blk_drew ?_ | refine blk_alloc ?_ _));exact BK453.out))⟩;have n6_ : Aside0 (Below w.heap.size w w26):=⟨(by rw [hw];exact (hs4 HB GE449 GE450 GE451 GE453))⟩;clear hw;clear HO_452000;clear HO459;clear BK449;clear BK450;clear BK451;clear BK453;clear HB;have HO_452000:=n0_;have HO459:=n1_;have BK449:=n2_;have BK450:=n3_;have BK451:=n4_;have BK453:=n5_;have HB:=n6_;clear n0_ n1_ n2_ n3_ n4_ n5_ n6_;have hnb27:=NB451_450.out;have hnc27:=NB450_451.out;have hcz28_0 : w26.cell? ⟨gb451,0,none⟩ = some (u452000):=(zCl BK451.out 0).trans rfl;have hfz28_0:=zFr BK451.out 0;have hcz29_0 : w26.cell? ⟨gb453,0,none⟩ = some (.bool ((rd_T83 l0_0 x4_1).f0)):=(zCl BK453.out 0).trans rfl;have hcz29_1 : w26.cell? ⟨gb453,1,none⟩ = some (.int .i64 ((rd_T83 l0_0 x4_1).f1)):=(zCl BK453.out 1).trans rfl;have hcz29_2 : w26.cell? ⟨gb453,2,none⟩ = some (.slice Ao24 y457.length co24):=(zCl BK453.out 2).trans rfl;have hfz29_0:=zFr BK453.out 0;have hfz29_1:=zFr BK453.out 1;have hfz29_2:=zFr BK453.out 2) | ((with_reducible refine gate_builtin (b:=.append) (xs:=#[.tmp 25,.tmp 27]) rfl ?_);at_builtin;refine Kd.S_append k83 (w0:=w) w.heap.size rfl (.tmp 25) (.tmp 27) 50 83 (.agg #[(.bool false),(.int .i64 0),(.slice none 0 0)]) 40 rfl Try.underlying50 info83 rfl (by decide) (by omega) u452000 x452000_1 (⟨(rd_T83 l0_0 x4_1).f0,(rd_T83 l0_0 x4_1).f1,y457⟩ : S83) [.bool ((rd_T83 l0_0 x4_1).f0),.int .i64 ((rd_T83 l0_0 x4_1).f1),.slice Ao24 y457.length co24] (fun k_=>k_ ≠ gb453) (fun k_=>some k_ = (.slice Ao24 y457.length co24 : Value).ownBlock) rfl rfl ?aP (fun k_ hk_=>((Kd.R_mono (ok':=fun k_=>((fun k_=>k_ ≠ gb453)) k_ ∧ some k_ ≠ (u452000 : Value).ownBlock) (Kd.R_types (Kd.R_apart' (HO459.out) (Kd.S_typed HO_452000.out) (by decide)) BK453.out (by decide)) (fun k_ hk=>⟨hk.2,hk.1.2⟩))).1 k_ hk_.symm) ?aF ?aO ?aB ?aS ?aL ?_;(case aP=>exact k83_mkM _ _ _ (⟨(rd_T83 l0_0 x4_1).f0,(rd_T83 l0_0 x4_1).f1,y457⟩ : S83) (Kd.R_mono (Kd.R_tight rfl (Kd.R_mono (ok':=fun k_=>((fun k_=>k_ ≠ gb453)) k_ ∧ some k_ ≠ (u452000 : Value).ownBlock) (Kd.R_types (Kd.R_apart' (HO459.out) (Kd.S_typed HO_452000.out) (by decide)) BK453.out (by decide)) (fun k_ hk=>⟨hk.2,hk.1.2⟩))) (fun _ h_=>h_)));(case aB=>exact (hs4 HB GE449 GE450 GE451 GE453));(case aF=>exact (fun k_ hk=>Kd.freshB (g:=gb453) (o:=.cells #[.bool ((rd_T83 l0_0 x4_1).f0),.int .i64 ((rd_T83 l0_0 x4_1).f1),.slice Ao24 y457.length co24] 83 (0,0)) (bs BK453) k_ hk));(case aO=>exact (by (with_reducible repeat (first | apply Kd.S_alloc | apply Kd.S_drewN | apply Kd.S_drew));exact Kd.S_mono HO_452000.out (fun k_ hk=>⟨hk.2,fun e_=>hk.1 e_⟩)));(case aS=>exact (below_size (hs4 HB GE449 GE450 GE451 GE453)));(case aL=>have:=LMc11.out;omega);intro v461 w30 ho hb hg hat;rw [← Ny460.out] at ho;have n0_:=zMk (blk_grown (g:=gb449) (o:=.cells #[.slice (some ad452) l0_0.length c0_0] 52 (0,0)) (bs BK449) hg (Kd.S_ne HO_452000.out BK449.out (by decide)));have n1_:=zMk (blk_grown (g:=gb450) (o:=.cells #[.slice none 0 0] 52 (0,0)) (bs BK450) hg (Kd.S_ne HO_452000.out BK450.out (by decide)));have n2_:=zMk (blk_grown (g:=gb451) (o:=.cells #[u452000] 52 (0,0)) (bs BK451) hg (Kd.S_ne HO_452000.out BK451.out (by decide)));have n3_:=zMk (blk_grown (g:=gb453) (o:=.cells #[.bool ((rd_T83 l0_0 x4_1).f0),.int .i64 ((rd_T83 l0_0 x4_1).f1),.slice Ao24 y457.length co24] 83 (0,0)) (bs BK453) hg (Kd.S_away HO_452000.out (fun _ hk=>hk.2)));have n4_:=zMk (hb);have n5_:=zMk (ho);clear BK449;clear BK450;clear BK451;clear BK453;clear HB;clear HO_452000;clear HO459;have BK449:=n0_;have BK450:=n1_;have BK451:=n2_;have BK453:=n3_;have HB:=n4_;have HO462:=n5_;clear n0_ n1_ n2_ n3_ n4_ n5_;clear ho hb hg hat;obtain ⟨Ao31,co31,eo31⟩:=Kd.S_slice HO462.out;subst eo31;have hcz32_0 : w30.cell? ⟨gb451,0,none⟩ = some (u452000):=(zCl BK451.out 0).trans rfl;have hfz32_0:=zFr BK451.out 0))
       go_roundg k1;case measure=>have:=HK1.out;omega
       case rel=>exact ⟨(wrap64 (x4_1 + 1)),(y460),(.slice Ao31 y460.length co31),(by first | rfl | (simp;done) | (simp [*];done)),H',⟨by have:=HK1.out;omega⟩,⟨by (with_reducible repeat (first | apply Kd.S_alloc | apply Kd.S_drewN | apply Kd.S_drew));exact Kd.S_mono (Kd.S_far (p:=⟨gb451,0,none⟩) (Kd.S_types HO462.out BK451.out (by decide)) (fun _ hk=>hk.2) (.slice Ao31 y460.length co31)) (fun _ hk=>trivial)⟩,⟨by (with_reducible repeat (first | refine blk_drewN ?_ _ | refine blk_drew ?_ | refine blk_alloc ?_ _));refine blk_far ?_ NB449_451.out _;(with_reducible repeat (first | refine blk_drewN ?_ _ | refine blk_drew ?_ | refine blk_alloc ?_ _));exact BK449.out⟩,⟨by (with_reducible repeat (first | refine blk_drewN ?_ _ | refine blk_drew ?_ | refine blk_alloc ?_ _));refine blk_far ?_ NB450_451.out _;(with_reducible repeat (first | refine blk_drewN ?_ _ | refine blk_drew ?_ | refine blk_alloc ?_ _));exact BK450.out⟩,⟨by (with_reducible repeat (first | refine blk_drewN ?_ _ | refine blk_drew ?_ | refine blk_alloc ?_ _));refine blk_put (cs:=#[u452000]) ?_ 0 _ rfl;(with_reducible repeat (first | refine blk_drewN ?_ _ | refine blk_drew ?_ | refine blk_alloc ?_ _));exact BK451.out⟩,⟨hs4 HB GE449 GE450 GE451 GE453⟩⟩
      rw [if_neg c11] at H;exact absurd H (by simp)
     rw [if_neg c10] at H;exact absurd H (by simp)
    rw [if_neg c9] at H;exact absurd H (by simp)
   rw [if_neg c8] at H;have c8b0 : decide (x4_1 < (l0_0.length : Int)) = false:=decide_eq_false c8;clear c8;obtain rfl:=Option.some.inj H;have hnb33:=NB449_450.out;have hnc33:=NB450_449.out;have hnb34:=NB449_451.out;have hnc34:=NB451_449.out;have hcz35_0 : wr.cell? ⟨gb449,0,none⟩ = some (.slice A0_0 l0_0.length c0_0):=(zCl BK449.out 0).trans rfl;have hfz35_0:=zFr BK449.out 0;have hnb36:=NB451_450.out;have hnc36:=NB450_451.out;have hcz37_0 : wr.cell? ⟨gb451,0,none⟩ = some (u452000):=(zCl BK451.out 0).trans rfl;have hfz37_0:=zFr BK451.out 0;obtain ⟨Ao38,co38,eo38⟩:=Kd.S_slice HO_452000.out;subst eo38;have hcz39_0 : wr.cell? ⟨gb450,0,none⟩ = some (.slice none 0 0):=(zCl BK450.out 0).trans rfl;have hfz39_0:=zFr BK450.out 0
   go_wp2
   refine bodyPost_ret (results_cell_row rfl _ _ gb450 52 #[.slice Ao38 x452000_1.length co38] (0,0) _ rfl (by (with_reducible repeat (first | refine blk_drewN ?_ _ | refine blk_drew ?_ | refine blk_alloc ?_ _));refine blk_put (cs:=#[.slice none 0 0]) ?_ 0 _ rfl;(with_reducible repeat (first | refine blk_drewN ?_ _ | refine blk_drew ?_ | refine blk_alloc ?_ _));exact BK450.out) Try.underlying52 rfl (by kernel_rfl)) rfl ?_;exact ⟨_,by first | rfl | (simp [errW_none,errW_some] <;> rfl) | (simp [*,errW_none,errW_some] <;> rfl),by (with_reducible repeat (first | apply Kd.S_alloc | apply Kd.S_drewN | apply Kd.S_drew));exact Kd.S_mono (Kd.S_far (p:=⟨gb450,0,none⟩) (Kd.S_types HO_452000.out BK450.out (by decide)) (fun _ hk=>hk.2) (.slice Ao38 x452000_1.length co38)) (fun _ hk=>trivial),hs3 HB GE449 GE450 GE451⟩
def spec_l05Leaf.f (a0_0 : Int) (a0_1 : ByteArray) : Option (Bool):=if a0_0 = 0 then (some (a0_1.toList == ([] : List UInt8))) else (if a0_0 = 1 then ((spec_l01In.f (a0_1.size : Int) 1 120).bind fun t464=>(some t464)) else (if a0_0 = 2 then (some (decide ((a0_1.size : Int) ≤ 120))) else (some false)))
set_option maxHeartbeats 8000000 in
set_option maxRecDepth 100000 in
theorem spec_l05Leaf.calls (a0_0 : Int) (a0_1 : ByteArray) (r : Bool) (w : World) (h : spec_l05Leaf.f a0_0 a0_1 = some r) :
  Calls Try.prog 135 #[.agg #[.int .i64 a0_0,.string a0_1]] w fun e w'=>e = .returned (.bool r) ∧ Below w.heap.size w w':=by
 have hu101:=Try.underlying101;have HB:=zMk (Below.refl w.heap.size w);have H : (if a0_0 = 0 then (some (a0_1.toList == ([] : List UInt8))) else (if a0_0 = 1 then ((spec_l01In.f (a0_1.size : Int) 1 120).bind fun t464=>(some t464)) else (if a0_0 = 2 then (some (decide ((a0_1.size : Int) ≤ 120))) else (some false)))) = some r:=h;clear h
 go_enter Try.func135,Try.ntmps135
 go_upto_if 5 with (first | ((with_reducible refine gate_dst (N:=1) rfl ?_);refine box_event ?hg (N:=1) ?hd (cs:=#[.int .i64 a0_0,.string a0_1]) (t:=101) ?hr ?_;(case hd=>rfl);(case hg=>rfl);(case hr=>first | (go_simp;done) | (go_simp;rfl));intro gb463 hg w3 hbox hb;have n0_:=zMk (below_step (hs HB) hb);have n1_:=zMk (hbox);have n2_:=zMk ((by rw [hg];exact (below_size (hs HB)) : w.heap.size ≤ gb463));have n3_:=zMk ((by rw [hg];exact (below_size (hs HB)) : w.heap.size ≤ gb463));clear HB;have HB:=n0_;have BK463:=n1_;have GW463:=n2_;have GE463:=n3_;clear n0_ n1_ n2_ n3_;clear hb hbox hg;have hcz4_0 : w3.cell? ⟨gb463,0,none⟩ = some (.int .i64 a0_0):=(zCl BK463.out 0).trans rfl;have hcz4_1 : w3.cell? ⟨gb463,1,none⟩ = some (.string a0_1):=(zCl BK463.out 1).trans rfl;have hfz4_0:=zFr BK463.out 0;have hfz4_1:=zFr BK463.out 1))
 (try simp only [Act.put,zS1,zS2,zS3])
 by_cases c2 : a0_0 = 0
 ·rw [if_pos c2] at H;have c2b0 : (a0_0 == 0) = true:=beq_iff_eq.mpr c2;have c2b1 : (a0_0 != 0) = false:=bne_eq_false_iff_eq.mpr c2;clear c2
  (first | rw [c2b0] | rw [c2b1] | (simp only [i64_w,i32_w];rw [c2b0]) | skip)
  obtain rfl:=Option.some.inj H
  go_wp2
  go_ret
  exact ⟨by first | rfl | (simp [errW_none,errW_some] <;> rfl) | (simp [*,errW_none,errW_some] <;> rfl),hs1 HB GE463⟩
 rw [if_neg c2] at H;have c2b0 : (a0_0 == 0) = false:=beq_eq_false_iff_ne.mpr c2;have c2b1 : (a0_0 != 0) = true:=bne_iff_ne.mpr c2
 (first | rw [c2b0] | rw [c2b1] | (simp only [i64_w,i32_w];rw [c2b0]) | skip)
 by_cases c5 : a0_0 = 1
 ·rw [if_pos c5] at H;have c5b0 : (a0_0 == 1) = true:=beq_iff_eq.mpr c5;have c5b1 : (a0_0 != 1) = false:=bne_eq_false_iff_eq.mpr c5;clear c5;replace H:=Option.bind_eq_some_iff.mp H;obtain ⟨t464,A60,H⟩:=H;replace H : (some t464) = some r:=H;have A6:=zMk A60;clear A60;obtain rfl:=Option.some.inj H;go_wp2_with (first | ((with_reducible refine gate_callee (f:=63) rfl ?_);refine goesL_ (some 15) rfl rfl Try.func63 (by kernel_rfl) rfl #[.int .i64 (a0_1.size : Int),.int .i64 1,.int .i64 120] rfl (by (try simp only [List.map_toArray,List.map_cons,List.map_nil]);first | done | rfl | (simp only [List.length_drop,List.length_take];rfl)) ?_;(with_reducible refine (spec_l01In.calls (a0_1.size : Int) 1 120 t464 _ A6.out).mono ?_);rintro e w' ⟨rfl,⟨nd,rfl⟩⟩;refine ⟨_,rfl,?_⟩))
  go_ret
  exact ⟨by first | rfl | (simp [errW_none,errW_some] <;> rfl) | (simp [*,errW_none,errW_some] <;> rfl),hs1 HB GE463⟩
 rw [if_neg c5] at H;have c5b0 : (a0_0 == 1) = false:=beq_eq_false_iff_ne.mpr c5;have c5b1 : (a0_0 != 1) = true:=bne_iff_ne.mpr c5
 by_cases c9 : a0_0 = 2
 ·rw [if_pos c9] at H;have c9b0 : (a0_0 == 2) = true:=beq_iff_eq.mpr c9;have c9b1 : (a0_0 != 2) = false:=bne_eq_false_iff_eq.mpr c9;clear c9;obtain rfl:=Option.some.inj H
  go_wp2
  go_ret
  exact ⟨by first | rfl | (simp [errW_none,errW_some] <;> rfl) | (simp [*,errW_none,errW_some] <;> rfl),hs1 HB GE463⟩
 rw [if_neg c9] at H;have c9b0 : (a0_0 == 2) = false:=beq_eq_false_iff_ne.mpr c9;have c9b1 : (a0_0 != 2) = true:=bne_iff_ne.mpr c9;obtain rfl:=Option.some.inj H
 go_wp2
 go_ret
 exact ⟨by first | rfl | (simp [errW_none,errW_some] <;> rfl) | (simp [*,errW_none,errW_some] <;> rfl),hs1 HB GE463⟩
mutual
def spec_FlashOk.l0 : Nat → Int → List (S83) → Option (Bool)
 | 0,_,_=>none
 | k + 1,x3,x466000=>if x3 < (x466000.length : Int) then (if 0 ≤ x3 then (if (((rd_T83 x466000 x3).f2).length : Int) = 4 then ((spec_l01In.f ((rd_T83 x466000 x3).f1) 0 1000000000).bind fun t469=>(spec_FlashOk.j1 k x3 (!t469) x466000 ((rd_T83 x466000 x3).f0) ((rd_T83 x466000 x3).f1) ((rd_T83 x466000 x3).f2))) else (spec_FlashOk.j1 k x3 true x466000 ((rd_T83 x466000 x3).f0) ((rd_T83 x466000 x3).f1) ((rd_T83 x466000 x3).f2))) else (none)) else ((spec_l01In.f (x466000.length : Int) 3 10).bind fun t466=>(some t466))
def spec_FlashOk.j1 : Nat → Int → Bool → List (S83) → Bool → Int → List (S101) → Option (Bool)
 | 0,_,_,_,_,_,_=>none
 | k + 1,x3,x27,x466000,x469000,x469001,x469002=>if x27 = true then (some false) else (spec_FlashOk.l1 k x3 0 x466000 x469000 x469001 x469002)
def spec_FlashOk.l1 : Nat → Int → Int → List (S83) → Bool → Int → List (S101) → Option (Bool)
 | 0,_,_,_,_,_,_=>none
 | k + 1,x3,x5,x466000,x469000,x469001,x469002=>if x5 < (x469002.length : Int) then (if 0 ≤ x5 then ((spec_l05Leaf.f ((rd_T101 x469002 x5).f0) ((rd_T101 x469002 x5).f1)).bind fun t471=>(if t471 = true then (if x5 > 0 then (if 0 ≤ (wrap64 (x5 - 1)) then (if (wrap64 (x5 - 1)) < (x469002.length : Int) then (if ((rd_T101 x469002 (wrap64 (x5 - 1))).f0) = 0 then (if ((rd_T101 x469002 x5).f0) = 0 then (spec_FlashOk.l1 k x3 (wrap64 (x5 + 1)) x466000 x469000 x469001 x469002) else (some false)) else (spec_FlashOk.l1 k x3 (wrap64 (x5 + 1)) x466000 x469000 x469001 x469002)) else (none)) else (none)) else (spec_FlashOk.l1 k x3 (wrap64 (x5 + 1)) x466000 x469000 x469001 x469002)) else (some false))) else (none)) else (spec_FlashOk.l0 k (wrap64 (x3 + 1)) x466000)
end
def spec_FlashOk.f (k : Nat) (l0_0 : List (S83)) : Option (Bool):=spec_FlashOk.l0 k 0 l0_0
theorem spec_FlashOk.mono_l : ∀ k,(∀ y0 y1,LeO (spec_FlashOk.l0 k y0 y1) (spec_FlashOk.l0 (k + 1) y0 y1)) ∧ (∀ y0 y1 y2 y3 y4 y5,LeO (spec_FlashOk.j1 k y0 y1 y2 y3 y4 y5) (spec_FlashOk.j1 (k + 1) y0 y1 y2 y3 y4 y5)) ∧ (∀ y0 y1 y2 y3 y4 y5,LeO (spec_FlashOk.l1 k y0 y1 y2 y3 y4 y5) (spec_FlashOk.l1 (k + 1) y0 y1 y2 y3 y4 y5))
 | 0=>⟨fun _ _ r h=>by simp [spec_FlashOk.l0] at h,fun _ _ _ _ _ _ r h=>by simp [spec_FlashOk.j1] at h,fun _ _ _ _ _ _ r h=>by simp [spec_FlashOk.l1] at h⟩
 | k + 1=>by
  obtain ⟨ih0,ih1,ih2⟩:=spec_FlashOk.mono_l k;refine ⟨?_,?_,?_⟩
  ·intro y0 y1;unfold spec_FlashOk.l0
   repeat' first
   | (with_reducible exact ih0 _ _)
   | (with_reducible exact ih1 _ _ _ _ _ _)
   | (with_reducible exact ih2 _ _ _ _ _ _)
   | (with_reducible exact LeO.refl _)
   | (with_reducible exact LeO.none _)
   | (with_reducible refine LeO.ite ?_ ?_)
   | (with_reducible refine LeO.bind ?_ (fun _=>?_))
   | exact ih0 _ _
   | exact ih1 _ _ _ _ _ _
   | exact ih2 _ _ _ _ _ _
   | exact LeO.none _
   | refine LeO.ite ?_ ?_
   | refine LeO.bind ?_ (fun _=>?_)
  ·intro y0 y1 y2 y3 y4 y5;unfold spec_FlashOk.j1
   repeat' first
   | (with_reducible exact ih0 _ _)
   | (with_reducible exact ih1 _ _ _ _ _ _)
   | (with_reducible exact ih2 _ _ _ _ _ _)
   | (with_reducible exact LeO.refl _)
   | (with_reducible exact LeO.none _)
   | (with_reducible refine LeO.ite ?_ ?_)
   | (with_reducible refine LeO.bind ?_ (fun _=>?_))
   | exact ih0 _ _
   | exact ih1 _ _ _ _ _ _
   | exact ih2 _ _ _ _ _ _
   | exact LeO.none _
   | refine LeO.ite ?_ ?_
   | refine LeO.bind ?_ (fun _=>?_)
  intro y0 y1 y2 y3 y4 y5;unfold spec_FlashOk.l1
  repeat' first
  | (with_reducible exact ih0 _ _)
  | (with_reducible exact ih1 _ _ _ _ _ _)
  | (with_reducible exact ih2 _ _ _ _ _ _)
  | (with_reducible exact LeO.refl _)
  | (with_reducible exact LeO.none _)
  | (with_reducible refine LeO.ite ?_ ?_)
  | (with_reducible refine LeO.bind ?_ (fun _=>?_))
  | exact ih0 _ _
  | exact ih1 _ _ _ _ _ _
  | exact ih2 _ _ _ _ _ _
  | exact LeO.none _
  | refine LeO.ite ?_ ?_
  | refine LeO.bind ?_ (fun _=>?_)
theorem spec_FlashOk.mono : ∀ a0 k,LeO (spec_FlashOk.f k a0) (spec_FlashOk.f (k + 1) a0):=by
 intro a0 k;obtain ⟨ih0,ih1,ih2⟩:=spec_FlashOk.mono_l k;unfold spec_FlashOk.f
 repeat' first
   | (with_reducible exact ih0 _ _)
   | (with_reducible exact ih1 _ _ _ _ _ _)
   | (with_reducible exact ih2 _ _ _ _ _ _)
   | (with_reducible exact LeO.refl _)
   | (with_reducible exact LeO.none _)
   | (with_reducible refine LeO.ite ?_ ?_)
   | (with_reducible refine LeO.bind ?_ (fun _=>?_))
   | exact ih0 _ _
   | exact ih1 _ _ _ _ _ _
   | exact ih2 _ _ _ _ _ _
   | exact LeO.none _
   | refine LeO.ite ?_ ?_
   | refine LeO.bind ?_ (fun _=>?_)
set_option maxHeartbeats 8000000 in
set_option maxRecDepth 100000 in
theorem spec_FlashOk.calls (k : Nat) (A0_0 : Option Addr) (c0_0 : Nat) (l0_0 : List (S83)) (r : Bool) (w : World) (hr0_0 : Kd.C k83 w A0_0 l0_0.length l0_0) (hc0_0 : l0_0.length ≤ c0_0) (h : spec_FlashOk.f k l0_0 = some r) :
  Calls Try.prog 108 #[.agg #[.slice A0_0 l0_0.length c0_0]] w fun e w'=>e = .returned (.bool r) ∧ Below w.heap.size w w':=by
 have hu52:=Try.underlying52;have hu83:=Try.underlying83;have hu101:=Try.underlying101;have HR0_0:=zMk hr0_0;have HC0_0:=zMk hc0_0;clear hr0_0 hc0_0;have HB:=zMk (Below.refl w.heap.size w);have H : (spec_FlashOk.l0 k 0 l0_0) = some r:=h;clear h;have H':=zMk H;clear H
 go_enter Try.func108,Try.ntmps108
 go_wp2_with (first | ((with_reducible refine gate_dst (N:=1) rfl ?_);refine box_event ?hg (N:=1) ?hd (cs:=#[.slice A0_0 l0_0.length c0_0]) (t:=52) ?hr ?_;(case hd=>rfl);(case hg=>rfl);(case hr=>first | (go_simp;done) | (go_simp;rfl));intro gb465 hg w2 hbox hb;have n0_:=zMk (below_step (hs HB) hb);have n1_:=zMk (hbox);have n2_:=zMk ((by rw [hg];exact (below_size (hs HB)) : w.heap.size ≤ gb465));have n3_:=zMk ((by rw [hg];exact (below_size (hs HB)) : w.heap.size ≤ gb465));clear HB;have HB:=n0_;have BK465:=n1_;have GW465:=n2_;have GE465:=n3_;clear n0_ n1_ n2_ n3_;clear hb hbox hg));go_loopg [3] k (fun kq v3 w'=>∃ (x3_1 : Int),v3 = .int .i64 x3_1 ∧ Aside0 (spec_FlashOk.l0 kq x3_1 l0_0 = some r) ∧ Aside0 (kq ≤ k) ∧ Aside0 (w'.heap[gb465]? = some (.cells #[(.slice A0_0 l0_0.length c0_0)] 52 (0,0))) ∧ Aside0 (Below w.heap.size w w'));case atStart=>exact ⟨(0),(by first | rfl | (simp;done) | (simp [*];done)),H',⟨Nat.le_refl _⟩,⟨bs BK465⟩,⟨hs1 HB GE465⟩⟩
 case round =>
  clear H'
  try clear c1
  try clear p2
  obtain ⟨x3_1,rfl,HA,HK1,BK465,HB⟩:=hrel;cases gk with
  | zero=>exact absurd HA.out (by simp [spec_FlashOk.l0])
  | succ k1 =>
   have H:=HA.out;clear HA;simp only [spec_FlashOk.l0] at H
   by_cases c3 : x3_1 < (l0_0.length : Int)
   ·rw [if_pos c3] at H;have c3b0 : decide (x3_1 < (l0_0.length : Int)) = true:=decide_eq_true c3;clear c3
    by_cases c4 : 0 ≤ x3_1
    ·rw [if_pos c4] at H;have c4b0 : decide (0 ≤ x3_1) = true:=decide_eq_true c4;clear c4;have HC5:=zMk H;clear H;have hcz6_0 : wr.cell? ⟨gb465,0,none⟩ = some (.slice A0_0 l0_0.length c0_0):=(zCl BK465.out 0).trans rfl;have hfz6_0:=zFr BK465.out 0;have p467 : 0 ≤ (x3_1 : Int):=zDe (by first | (with_reducible assumption) | assumption);have q467 : x3_1 < (l0_0.length : Int):=zDe (by first | (with_reducible assumption) | assumption);obtain ⟨ad467,A467_2,c467_2,e467,hx467_0,hx467_1,hx467_2,hl467_2,hi467_2⟩:=at_T83 HR0_0.out x3_1 p467 q467;cases e467;replace hx467_0:=(HB.out.cell (zBl w _ hx467_0)).trans hx467_0;replace hx467_1:=(HB.out.cell (zBl w _ hx467_1)).trans hx467_1;replace hx467_2:=(HB.out.cell (zBl w _ hx467_2)).trans hx467_2;have HR467_2:=zMk hi467_2;have HC467_2:=zMk hl467_2;clear hi467_2 hl467_2;replace p467:=eq_true p467;replace q467:=eq_true q467;go_upto_region 5 with (first | ((with_reducible refine gate_dst (N:=4) rfl ?_);refine box_event ?hg (N:=4) ?hd (cs:=#[.bool false,.int .i64 0,.slice none 0 0]) (t:=83) ?hr ?_;(case hd=>rfl);(case hg=>rfl);(case hr=>first | (go_simp;done) | (go_simp;rfl));intro gb468 hg w7 hbox hb;have n0_:=zMk (blk_below (g:=gb465) (o:=.cells #[.slice (some ad467) l0_0.length c0_0] 52 (0,0)) (bs BK465) hb);have n1_:=zMk (below_step (hs1 HB GE465) hb);have n2_:=zMk (hbox);have n3_:=zMk ((by rw [hg];exact (below_size (hs1 HB GE465)) : w.heap.size ≤ gb468));have n4_:=zMk ((by rw [hg];exact (below_size (hs1 HB GE465)) : w.heap.size ≤ gb468));have n5_:=zMk ((by rw [hg];exact Nat.ne_of_lt (blk_lt (g:=gb465) (o:=.cells #[.slice (some ad467) l0_0.length c0_0] 52 (0,0)) (bs BK465)) : gb465 ≠ gb468));have n6_:=zMk ((by rw [hg];exact Nat.ne_of_gt (blk_lt (g:=gb465) (o:=.cells #[.slice (some ad467) l0_0.length c0_0] 52 (0,0)) (bs BK465)) : gb468 ≠ gb465));clear BK465;clear HB;have BK465:=n0_;have HB:=n1_;have BK468:=n2_;have GW468:=n3_;have GE468:=n4_;have NB465_468:=n5_;have NB468_465:=n6_;clear n0_ n1_ n2_ n3_ n4_ n5_ n6_;clear hb hbox hg;have hnb8:=NB468_465.out;have hnc8:=NB465_468.out;have hcz9_0 : w7.cell? ⟨gb468,0,none⟩ = some (.bool false):=(zCl BK468.out 0).trans rfl;have hcz9_1 : w7.cell? ⟨gb468,1,none⟩ = some (.int .i64 0):=(zCl BK468.out 1).trans rfl;have hcz9_2 : w7.cell? ⟨gb468,2,none⟩ = some (.slice none 0 0):=(zCl BK468.out 2).trans rfl;have hfz9_0:=zFr BK468.out 0;have hfz9_1:=zFr BK468.out 1;have hfz9_2:=zFr BK468.out 2))
     (try simp only [Act.put,zS1,zS2,zS3])
     go_cut [17,27] (fun v17 v27 wc=>∃ (kq : Nat) (x27_4 : Bool),v27 = .bool x27_4 ∧ Aside0 (spec_FlashOk.j1 kq x3_1 x27_4 l0_0 ((rd_T83 l0_0 x3_1).f0) ((rd_T83 l0_0 x3_1).f1) ((rd_T83 l0_0 x3_1).f2) = some r) ∧ Aside0 (kq ≤ k1) ∧ Aside0 (wc.heap[gb465]? = some (.cells #[(.slice (some ad467) l0_0.length c0_0)] 52 (0,0))) ∧ Aside0 (wc.heap[gb468]? = some (.cells #[.bool ((rd_T83 l0_0 x3_1).f0),.int .i64 ((rd_T83 l0_0 x3_1).f1),(.slice A467_2 ((rd_T83 l0_0 x3_1).f2).length c467_2)] 83 (0,0))) ∧ Aside0 (Below w.heap.size w wc))
     case first =>
      have H:=HC5.out;clear HC5
      by_cases c10 : (((rd_T83 l0_0 x3_1).f2).length : Int) = 4
      ·rw [if_pos c10] at H;have c10b0 : ((((rd_T83 l0_0 x3_1).f2).length : Int) == 4) = true:=beq_iff_eq.mpr c10;have c10b1 : ((((rd_T83 l0_0 x3_1).f2).length : Int) != 4) = false:=bne_eq_false_iff_eq.mpr c10;clear c10
       (first | rw [c10b0] | (simp only [i64_w,i32_w];rw [c10b0]) | skip)
       replace H:=Option.bind_eq_some_iff.mp H;obtain ⟨t469,A110,H⟩:=H;replace H : (spec_FlashOk.j1 k1 x3_1 (!t469) l0_0 ((rd_T83 l0_0 x3_1).f0) ((rd_T83 l0_0 x3_1).f1) ((rd_T83 l0_0 x3_1).f2)) = some r:=H;have A11:=zMk A110;clear A110;have H':=zMk H;clear H;have hnb12:=NB468_465.out;have hnc12:=NB465_468.out;have hcz13_0 : w7.cell? ⟨gb468,0,none⟩ = some (.bool false):=(zCl BK468.out 0).trans rfl;have hcz13_1 : w7.cell? ⟨gb468,1,none⟩ = some (.int .i64 0):=(zCl BK468.out 1).trans rfl;have hcz13_2 : w7.cell? ⟨gb468,2,none⟩ = some (.slice none 0 0):=(zCl BK468.out 2).trans rfl;have hfz13_0:=zFr BK468.out 0;have hfz13_1:=zFr BK468.out 1;have hfz13_2:=zFr BK468.out 2;go_wp2_with (first | (go_at_call 63;(with_reducible refine (spec_l01In.calls ((rd_T83 l0_0 x3_1).f1) 0 1000000000 t469 _ A11.out).mono ?_);rintro e w' ⟨rfl,⟨nd,rfl⟩⟩))
       go_meet
       case rel=>exact ⟨_,(!t469),(by first | rfl | (simp;done) | (simp [*];done)),H',⟨by have:=HK1.out;first | omega | exact Nat.le_refl _⟩,⟨by (with_reducible repeat (first | refine blk_drewN ?_ _ | refine blk_drew ?_ | refine blk_alloc ?_ _));refine blk_far ?_ NB465_468.out _;(with_reducible repeat (first | refine blk_drewN ?_ _ | refine blk_drew ?_ | refine blk_alloc ?_ _));refine blk_far ?_ NB465_468.out _;(with_reducible repeat (first | refine blk_drewN ?_ _ | refine blk_drew ?_ | refine blk_alloc ?_ _));refine blk_far ?_ NB465_468.out _;(with_reducible repeat (first | refine blk_drewN ?_ _ | refine blk_drew ?_ | refine blk_alloc ?_ _));exact BK465.out⟩,⟨by (with_reducible repeat (first | refine blk_drewN ?_ _ | refine blk_drew ?_ | refine blk_alloc ?_ _));refine blk_put (cs:=#[.bool ((rd_T83 l0_0 x3_1).f0),.int .i64 ((rd_T83 l0_0 x3_1).f1),.slice none 0 0]) ?_ 2 _ rfl;(with_reducible repeat (first | refine blk_drewN ?_ _ | refine blk_drew ?_ | refine blk_alloc ?_ _));refine blk_put (cs:=#[.bool ((rd_T83 l0_0 x3_1).f0),.int .i64 0,.slice none 0 0]) ?_ 1 _ rfl;(with_reducible repeat (first | refine blk_drewN ?_ _ | refine blk_drew ?_ | refine blk_alloc ?_ _));refine blk_put (cs:=#[.bool false,.int .i64 0,.slice none 0 0]) ?_ 0 _ rfl;(with_reducible repeat (first | refine blk_drewN ?_ _ | refine blk_drew ?_ | refine blk_alloc ?_ _));exact BK468.out⟩,⟨hs2 HB GE465 GE468⟩⟩
      rw [if_neg c10] at H;have c10b0 : ((((rd_T83 l0_0 x3_1).f2).length : Int) == 4) = false:=beq_eq_false_iff_ne.mpr c10;have c10b1 : ((((rd_T83 l0_0 x3_1).f2).length : Int) != 4) = true:=bne_iff_ne.mpr c10
      (first | rw [c10b0] | (simp only [i64_w,i32_w];rw [c10b0]) | skip)
      have H':=zMk H;clear H;have hnb14:=NB468_465.out;have hnc14:=NB465_468.out;have hcz15_0 : w7.cell? ⟨gb468,0,none⟩ = some (.bool false):=(zCl BK468.out 0).trans rfl;have hcz15_1 : w7.cell? ⟨gb468,1,none⟩ = some (.int .i64 0):=(zCl BK468.out 1).trans rfl;have hcz15_2 : w7.cell? ⟨gb468,2,none⟩ = some (.slice none 0 0):=(zCl BK468.out 2).trans rfl;have hfz15_0:=zFr BK468.out 0;have hfz15_1:=zFr BK468.out 1;have hfz15_2:=zFr BK468.out 2
      go_wp2
      go_meet
      case rel=>exact ⟨_,(true),(by first | rfl | (simp;done) | (simp [*];done)),H',⟨by have:=HK1.out;first | omega | exact Nat.le_refl _⟩,⟨by (with_reducible repeat (first | refine blk_drewN ?_ _ | refine blk_drew ?_ | refine blk_alloc ?_ _));refine blk_far ?_ NB465_468.out _;(with_reducible repeat (first | refine blk_drewN ?_ _ | refine blk_drew ?_ | refine blk_alloc ?_ _));refine blk_far ?_ NB465_468.out _;(with_reducible repeat (first | refine blk_drewN ?_ _ | refine blk_drew ?_ | refine blk_alloc ?_ _));refine blk_far ?_ NB465_468.out _;(with_reducible repeat (first | refine blk_drewN ?_ _ | refine blk_drew ?_ | refine blk_alloc ?_ _));exact BK465.out⟩,⟨by (with_reducible repeat (first | refine blk_drewN ?_ _ | refine blk_drew ?_ | refine blk_alloc ?_ _));refine blk_put (cs:=#[.bool ((rd_T83 l0_0 x3_1).f0),.int .i64 ((rd_T83 l0_0 x3_1).f1),.slice none 0 0]) ?_ 2 _ rfl;(with_reducible repeat (first | refine blk_drewN ?_ _ | refine blk_drew ?_ | refine blk_alloc ?_ _));refine blk_put (cs:=#[.bool ((rd_T83 l0_0 x3_1).f0),.int .i64 0,.slice none 0 0]) ?_ 1 _ rfl;(with_reducible repeat (first | refine blk_drewN ?_ _ | refine blk_drew ?_ | refine blk_alloc ?_ _));refine blk_put (cs:=#[.bool false,.int .i64 0,.slice none 0 0]) ?_ 0 _ rfl;(with_reducible repeat (first | refine blk_drewN ?_ _ | refine blk_drew ?_ | refine blk_alloc ?_ _));exact BK468.out⟩,⟨hs2 HB GE465 GE468⟩⟩
     case rest =>
      clear HC5
      try clear c1
      try clear p2
      try clear c3
      try clear c3b0
      try clear c4
      try clear c4b0
      try clear p4
      try clear q4
      try clear hx4
      try clear c8
      try clear c10
      try clear c10b0
      try clear c10b1
      try clear c12
      try clear c14
      try clear hcz13_0
      try clear hcz13_1
      try clear hcz13_2
      try clear hcz15_0
      try clear hcz15_1
      try clear hcz15_2
      try clear hcz6_0
      try clear hcz9_0
      try clear hcz9_1
      try clear hcz9_2
      try clear hfz13_0
      try clear hfz13_1
      try clear hfz13_2
      try clear hfz15_0
      try clear hfz15_1
      try clear hfz15_2
      try clear hfz6_0
      try clear hfz9_0
      try clear hfz9_1
      try clear hfz9_2
      try clear hx467_0
      try clear hx467_1
      try clear hx467_2
      try clear p2
      try clear p467
      try clear q467
      obtain ⟨kq,x27_4,rfl,HA,HJ4,BK465,BK468,HB⟩:=hcut;cases kq with
      | zero=>exact absurd HA.out (by simp [spec_FlashOk.j1])
      | succ kj4 =>
       have H:=HA.out;clear HA;simp only [spec_FlashOk.j1] at H
       by_cases c16 : x27_4 = true
       ·subst c16;have H1 : (some false) = some r:=by rw [if_pos rfl] at H;exact H
        clear H;have H:=H1;clear H1;obtain rfl:=Option.some.inj H
        go_wp2
        go_ret
        exact ⟨by first | rfl | (simp [errW_none,errW_some] <;> rfl) | (simp [*,errW_none,errW_some] <;> rfl),hs2 HB GE465 GE468⟩
       replace c16:=Bool.eq_false_iff.mpr c16;subst c16;have H1 : (spec_FlashOk.l1 kj4 x3_1 0 l0_0 ((rd_T83 l0_0 x3_1).f0) ((rd_T83 l0_0 x3_1).f1) ((rd_T83 l0_0 x3_1).f2)) = some r:=by rw [if_neg (show ¬ (false = true) by decide)] at H;exact H
       clear H;have H:=H1;clear H1;have H':=zMk H;clear H
       go_wp2
       go_loopg [5] kj4 (fun kq v5 w'=>∃ (x5_3 : Int),v5 = .int .i64 x5_3 ∧ Aside0 (spec_FlashOk.l1 kq x3_1 x5_3 l0_0 ((rd_T83 l0_0 x3_1).f0) ((rd_T83 l0_0 x3_1).f1) ((rd_T83 l0_0 x3_1).f2) = some r) ∧ Aside0 (kq ≤ kj4) ∧ Aside0 (w'.heap[gb465]? = some (.cells #[(.slice (some ad467) l0_0.length c0_0)] 52 (0,0))) ∧ Aside0 (w'.heap[gb468]? = some (.cells #[.bool ((rd_T83 l0_0 x3_1).f0),.int .i64 ((rd_T83 l0_0 x3_1).f1),(.slice A467_2 ((rd_T83 l0_0 x3_1).f2).length c467_2)] 83 (0,0))) ∧ Aside0 (Below w.heap.size w w'));case atStart=>exact ⟨(0),(by first | rfl | (simp;done) | (simp [*];done)),H',⟨Nat.le_refl _⟩,⟨bs BK465⟩,⟨bs BK468⟩,⟨hs2 HB GE465 GE468⟩⟩
       case round =>
        clear H'
        try clear c1
        try clear p2
        try clear c3
        try clear c3b0
        try clear c4
        try clear c4b0
        try clear p4
        try clear q4
        try clear hx4
        try clear c8
        try clear c10
        try clear c10b0
        try clear c10b1
        try clear c12
        try clear c14
        try clear c16
        try clear hcz13_0
        try clear hcz13_1
        try clear hcz13_2
        try clear hcz15_0
        try clear hcz15_1
        try clear hcz15_2
        try clear hcz6_0
        try clear hcz9_0
        try clear hcz9_1
        try clear hcz9_2
        try clear hfz13_0
        try clear hfz13_1
        try clear hfz13_2
        try clear hfz15_0
        try clear hfz15_1
        try clear hfz15_2
        try clear hfz6_0
        try clear hfz9_0
        try clear hfz9_1
        try clear hfz9_2
        try clear hx467_0
        try clear hx467_1
        try clear hx467_2
        try clear p2
        try clear p4
        try clear p467
        try clear q4
        try clear q467
        obtain ⟨x5_3,rfl,HA,HK3,BK465,BK468,HB⟩:=hrel;cases gk with
        | zero=>exact absurd HA.out (by simp [spec_FlashOk.l1])
        | succ k3 =>
         have H:=HA.out;clear HA;simp only [spec_FlashOk.l1] at H
         by_cases c17 : x5_3 < (((rd_T83 l0_0 x3_1).f2).length : Int)
         ·rw [if_pos c17] at H;have c17b0 : decide (x5_3 < (((rd_T83 l0_0 x3_1).f2).length : Int)) = true:=decide_eq_true c17;clear c17
          by_cases c18 : 0 ≤ x5_3
          ·rw [if_pos c18] at H;have c18b0 : decide (0 ≤ x5_3) = true:=decide_eq_true c18;clear c18;replace H:=Option.bind_eq_some_iff.mp H;obtain ⟨t471,A190,H⟩:=H;replace H : (if t471 = true then (if x5_3 > 0 then (if 0 ≤ (wrap64 (x5_3 - 1)) then (if (wrap64 (x5_3 - 1)) < (((rd_T83 l0_0 x3_1).f2).length : Int) then (if ((rd_T101 ((rd_T83 l0_0 x3_1).f2) (wrap64 (x5_3 - 1))).f0) = 0 then (if ((rd_T101 ((rd_T83 l0_0 x3_1).f2) x5_3).f0) = 0 then (spec_FlashOk.l1 k3 x3_1 (wrap64 (x5_3 + 1)) l0_0 ((rd_T83 l0_0 x3_1).f0) ((rd_T83 l0_0 x3_1).f1) ((rd_T83 l0_0 x3_1).f2)) else (some false)) else (spec_FlashOk.l1 k3 x3_1 (wrap64 (x5_3 + 1)) l0_0 ((rd_T83 l0_0 x3_1).f0) ((rd_T83 l0_0 x3_1).f1) ((rd_T83 l0_0 x3_1).f2))) else (none)) else (none)) else (spec_FlashOk.l1 k3 x3_1 (wrap64 (x5_3 + 1)) l0_0 ((rd_T83 l0_0 x3_1).f0) ((rd_T83 l0_0 x3_1).f1) ((rd_T83 l0_0 x3_1).f2))) else (some false)) = some r:=H;have A19:=zMk A190;clear A190
           by_cases c20 : t471 = true
           ·subst c20;have H1 : (if x5_3 > 0 then (if 0 ≤ (wrap64 (x5_3 - 1)) then (if (wrap64 (x5_3 - 1)) < (((rd_T83 l0_0 x3_1).f2).length : Int) then (if ((rd_T101 ((rd_T83 l0_0 x3_1).f2) (wrap64 (x5_3 - 1))).f0) = 0 then (if ((rd_T101 ((rd_T83 l0_0 x3_1).f2) x5_3).f0) = 0 then (spec_FlashOk.l1 k3 x3_1 (wrap64 (x5_3 + 1)) l0_0 ((rd_T83 l0_0 x3_1).f0) ((rd_T83 l0_0 x3_1).f1) ((rd_T83 l0_0 x3_1).f2)) else (some false)) else (spec_FlashOk.l1 k3 x3_1 (wrap64 (x5_3 + 1)) l0_0 ((rd_T83 l0_0 x3_1).f0) ((rd_T83 l0_0 x3_1).f1) ((rd_T83 l0_0 x3_1).f2))) else (none)) else (none)) else (spec_FlashOk.l1 k3 x3_1 (wrap64 (x5_3 + 1)) l0_0 ((rd_T83 l0_0 x3_1).f0) ((rd_T83 l0_0 x3_1).f1) ((rd_T83 l0_0 x3_1).f2))) = some r:=by rw [if_pos rfl] at H;exact H
            clear H;have H:=H1;clear H1
            by_cases c21 : x5_3 > 0
            ·rw [if_pos c21] at H;have c21b0 : decide (0 < x5_3) = true:=decide_eq_true c21;clear c21;obtain ⟨ji22,hji22⟩ : ∃ j_ : Int,(wrap64 (x5_3 - 1)) = j_:=⟨_,rfl⟩;replace H : (if 0 ≤ (ji22) then (if (ji22) < (((rd_T83 l0_0 x3_1).f2).length : Int) then (if ((rd_T101 ((rd_T83 l0_0 x3_1).f2) (ji22)).f0) = 0 then (if ((rd_T101 ((rd_T83 l0_0 x3_1).f2) x5_3).f0) = 0 then (spec_FlashOk.l1 k3 x3_1 (wrap64 (x5_3 + 1)) l0_0 ((rd_T83 l0_0 x3_1).f0) ((rd_T83 l0_0 x3_1).f1) ((rd_T83 l0_0 x3_1).f2)) else (some false)) else (spec_FlashOk.l1 k3 x3_1 (wrap64 (x5_3 + 1)) l0_0 ((rd_T83 l0_0 x3_1).f0) ((rd_T83 l0_0 x3_1).f1) ((rd_T83 l0_0 x3_1).f2))) else (none)) else (none)) = some r:=by first | (rw [hji22] at H;exact H) | (simp only [hji22] at H ⊢;exact H)
             (try rw [hji22] at A19)
             have hji22w : (IntKind.i64.wrap (x5_3 - 1)) = ji22:=(i64_w _).trans hji22
             by_cases c23 : 0 ≤ (ji22)
             ·rw [if_pos c23] at H;have c23b0 : decide (0 ≤ (ji22)) = true:=decide_eq_true c23;clear c23
              by_cases c24 : (ji22) < (((rd_T83 l0_0 x3_1).f2).length : Int)
              ·rw [if_pos c24] at H;have c24b0 : decide ((ji22) < (((rd_T83 l0_0 x3_1).f2).length : Int)) = true:=decide_eq_true c24;clear c24
               by_cases c25 : ((rd_T101 ((rd_T83 l0_0 x3_1).f2) (ji22)).f0) = 0
               ·rw [if_pos c25] at H;have c25b0 : (((rd_T101 ((rd_T83 l0_0 x3_1).f2) (ji22)).f0) == 0) = true:=beq_iff_eq.mpr c25;have c25b1 : (((rd_T101 ((rd_T83 l0_0 x3_1).f2) (ji22)).f0) != 0) = false:=bne_eq_false_iff_eq.mpr c25;clear c25;have hnb27:=NB468_465.out;have hnc27:=NB465_468.out;have hcz28_0 : wr.cell? ⟨gb468,0,none⟩ = some (.bool ((rd_T83 l0_0 x3_1).f0)):=(zCl BK468.out 0).trans rfl;have hcz28_1 : wr.cell? ⟨gb468,1,none⟩ = some (.int .i64 ((rd_T83 l0_0 x3_1).f1)):=(zCl BK468.out 1).trans rfl;have hcz28_2 : wr.cell? ⟨gb468,2,none⟩ = some (.slice A467_2 ((rd_T83 l0_0 x3_1).f2).length c467_2):=(zCl BK468.out 2).trans rfl;have hfz28_0:=zFr BK468.out 0;have hfz28_1:=zFr BK468.out 1;have hfz28_2:=zFr BK468.out 2;have p470 : 0 ≤ (x5_3 : Int):=zDe (by first | (with_reducible assumption) | assumption);have q470 : x5_3 < (((rd_T83 l0_0 x3_1).f2).length : Int):=zDe (by first | (with_reducible assumption) | assumption);obtain ⟨ad470,e470,hx470_0,hx470_1⟩:=at_T101 HR467_2.out x5_3 p470 q470;cases e470;replace hx470_0:=(HB.out.cell (zBl w _ hx470_0)).trans hx470_0;replace hx470_1:=(HB.out.cell (zBl w _ hx470_1)).trans hx470_1;replace p470:=eq_true p470;replace q470:=eq_true q470
                go_upto_if 64 with (first | ((with_reducible refine gate_callee (f:=135) rfl ?_);refine goesL_ (some 40) rfl rfl Try.func135 (by kernel_rfl) rfl #[.agg #[.int .i64 ((rd_T101 ((rd_T83 l0_0 x3_1).f2) x5_3).f0),.string ((rd_T101 ((rd_T83 l0_0 x3_1).f2) x5_3).f1)]] rfl (by (try simp only [List.map_toArray,List.map_cons,List.map_nil]);first | done | rfl | (simp only [List.length_drop,List.length_take];rfl)) ?_;(with_reducible refine (spec_l05Leaf.calls ((rd_T101 ((rd_T83 l0_0 x3_1).f2) x5_3).f0) ((rd_T101 ((rd_T83 l0_0 x3_1).f2) x5_3).f1) true _ A19.out).mono ?_);rintro e w29 ⟨rfl,hb⟩;refine ⟨_,rfl,?_⟩;have n0_:=zMk (blk_below (g:=gb465) (o:=.cells #[.slice (some ad467) l0_0.length c0_0] 52 (0,0)) (bs BK465) hb);have n1_:=zMk (blk_below (g:=gb468) (o:=.cells #[.bool ((rd_T83 l0_0 x3_1).f0),.int .i64 ((rd_T83 l0_0 x3_1).f1),.slice (some ad470) ((rd_T83 l0_0 x3_1).f2).length c467_2] 83 (0,0)) (bs BK468) hb);have n2_:=zMk (below_step (hs2 HB GE465 GE468) hb);clear BK465;clear BK468;clear HB;have BK465:=n0_;have BK468:=n1_;have HB:=n2_;clear n0_ n1_ n2_;(try clear hb);(try clear hb2);(try clear hk);(try clear hi);have hcz30_0 : w29.cell? ⟨gb468,0,none⟩ = some (.bool ((rd_T83 l0_0 x3_1).f0)):=(zCl BK468.out 0).trans rfl;have hcz30_1 : w29.cell? ⟨gb468,1,none⟩ = some (.int .i64 ((rd_T83 l0_0 x3_1).f1)):=(zCl BK468.out 1).trans rfl;have hcz30_2 : w29.cell? ⟨gb468,2,none⟩ = some (.slice (some ad470) ((rd_T83 l0_0 x3_1).f2).length c467_2):=(zCl BK468.out 2).trans rfl;have hfz30_0:=zFr BK468.out 0;have hfz30_1:=zFr BK468.out 1;have hfz30_2:=zFr BK468.out 2;have p472 : 0 ≤ ((ji22) : Int):=zDe (by first | (with_reducible assumption) | assumption);have q472 : (ji22) < (((rd_T83 l0_0 x3_1).f2).length : Int):=zDe (by first | (with_reducible assumption) | assumption);obtain ⟨ad472,e472,hx472_0,hx472_1⟩:=at_T101 HR467_2.out (ji22) p472 q472;obtain rfl : ad470 = ad472:=(by injection e472);replace hx472_0:=(HB.out.cell (zBl w _ hx472_0)).trans hx472_0;replace hx472_1:=(HB.out.cell (zBl w _ hx472_1)).trans hx472_1;replace p472:=eq_true p472;replace q472:=eq_true q472;have p473 : 0 ≤ (x5_3 : Int):=zDe (by first | (with_reducible assumption) | assumption);have q473 : x5_3 < (((rd_T83 l0_0 x3_1).f2).length : Int):=zDe (by first | (with_reducible assumption) | assumption);obtain ⟨ad473,e473,hx473_0,hx473_1⟩:=at_T101 HR467_2.out x5_3 p473 q473;obtain rfl : ad470 = ad473:=(by injection e473);replace hx473_0:=(HB.out.cell (zBl w _ hx473_0)).trans hx473_0;replace hx473_1:=(HB.out.cell (zBl w _ hx473_1)).trans hx473_1;replace p473:=eq_true p473;replace q473:=eq_true q473))
                (try simp only [Act.put,zS1,zS2,zS3])
                by_cases c26 : ((rd_T101 ((rd_T83 l0_0 x3_1).f2) x5_3).f0) = 0
                ·rw [if_pos c26] at H;have c26b0 : (((rd_T101 ((rd_T83 l0_0 x3_1).f2) x5_3).f0) == 0) = true:=beq_iff_eq.mpr c26;have c26b1 : (((rd_T101 ((rd_T83 l0_0 x3_1).f2) x5_3).f0) != 0) = false:=bne_eq_false_iff_eq.mpr c26;clear c26
                 (first | rw [c26b0] | rw [c26b1] | (simp only [i64_w,i32_w];rw [c26b0]) | skip)
                 have H':=zMk H;clear H
                 go_wp2
                 go_roundg k3;case measure=>have:=HK1.out;have:=HJ4.out;have:=HK3.out;omega
                 case rel=>exact ⟨(wrap64 (x5_3 + 1)),(by first | rfl | (simp;done) | (simp [*];done)),H',⟨by have:=HK1.out;have:=HJ4.out;have:=HK3.out;omega⟩,⟨bs BK465⟩,⟨bs BK468⟩,⟨hs2 HB GE465 GE468⟩⟩
                rw [if_neg c26] at H;have c26b0 : (((rd_T101 ((rd_T83 l0_0 x3_1).f2) x5_3).f0) == 0) = false:=beq_eq_false_iff_ne.mpr c26;have c26b1 : (((rd_T101 ((rd_T83 l0_0 x3_1).f2) x5_3).f0) != 0) = true:=bne_iff_ne.mpr c26
                (first | rw [c26b0] | rw [c26b1] | (simp only [i64_w,i32_w];rw [c26b0]) | skip)
                obtain rfl:=Option.some.inj H
                go_wp2
                go_ret
                exact ⟨by first | rfl | (simp [errW_none,errW_some] <;> rfl) | (simp only [← hji22];first | rfl | (simp [errW_none,errW_some] <;> rfl)) | (simp [*,errW_none,errW_some] <;> rfl),hs2 HB GE465 GE468⟩
               rw [if_neg c25] at H;have c25b0 : (((rd_T101 ((rd_T83 l0_0 x3_1).f2) (ji22)).f0) == 0) = false:=beq_eq_false_iff_ne.mpr c25;have c25b1 : (((rd_T101 ((rd_T83 l0_0 x3_1).f2) (ji22)).f0) != 0) = true:=bne_iff_ne.mpr c25;have H':=zMk H;clear H;have hnb35:=NB468_465.out;have hnc35:=NB465_468.out;have hcz36_0 : wr.cell? ⟨gb468,0,none⟩ = some (.bool ((rd_T83 l0_0 x3_1).f0)):=(zCl BK468.out 0).trans rfl;have hcz36_1 : wr.cell? ⟨gb468,1,none⟩ = some (.int .i64 ((rd_T83 l0_0 x3_1).f1)):=(zCl BK468.out 1).trans rfl;have hcz36_2 : wr.cell? ⟨gb468,2,none⟩ = some (.slice A467_2 ((rd_T83 l0_0 x3_1).f2).length c467_2):=(zCl BK468.out 2).trans rfl;have hfz36_0:=zFr BK468.out 0;have hfz36_1:=zFr BK468.out 1;have hfz36_2:=zFr BK468.out 2;have p470 : 0 ≤ (x5_3 : Int):=zDe (by first | (with_reducible assumption) | assumption);have q470 : x5_3 < (((rd_T83 l0_0 x3_1).f2).length : Int):=zDe (by first | (with_reducible assumption) | assumption);obtain ⟨ad470,e470,hx470_0,hx470_1⟩:=at_T101 HR467_2.out x5_3 p470 q470;cases e470;replace hx470_0:=(HB.out.cell (zBl w _ hx470_0)).trans hx470_0;replace hx470_1:=(HB.out.cell (zBl w _ hx470_1)).trans hx470_1;replace p470:=eq_true p470;replace q470:=eq_true q470;go_wp2_with (first | ((with_reducible refine gate_callee (f:=135) rfl ?_);refine goesL_ (some 40) rfl rfl Try.func135 (by kernel_rfl) rfl #[.agg #[.int .i64 ((rd_T101 ((rd_T83 l0_0 x3_1).f2) x5_3).f0),.string ((rd_T101 ((rd_T83 l0_0 x3_1).f2) x5_3).f1)]] rfl (by (try simp only [List.map_toArray,List.map_cons,List.map_nil]);first | done | rfl | (simp only [List.length_drop,List.length_take];rfl)) ?_;(with_reducible refine (spec_l05Leaf.calls ((rd_T101 ((rd_T83 l0_0 x3_1).f2) x5_3).f0) ((rd_T101 ((rd_T83 l0_0 x3_1).f2) x5_3).f1) true _ A19.out).mono ?_);rintro e w37 ⟨rfl,hb⟩;refine ⟨_,rfl,?_⟩;have n0_:=zMk (blk_below (g:=gb465) (o:=.cells #[.slice (some ad467) l0_0.length c0_0] 52 (0,0)) (bs BK465) hb);have n1_:=zMk (blk_below (g:=gb468) (o:=.cells #[.bool ((rd_T83 l0_0 x3_1).f0),.int .i64 ((rd_T83 l0_0 x3_1).f1),.slice (some ad470) ((rd_T83 l0_0 x3_1).f2).length c467_2] 83 (0,0)) (bs BK468) hb);have n2_:=zMk (below_step (hs2 HB GE465 GE468) hb);clear BK465;clear BK468;clear HB;have BK465:=n0_;have BK468:=n1_;have HB:=n2_;clear n0_ n1_ n2_;(try clear hb);(try clear hb2);(try clear hk);(try clear hi);have hcz38_0 : w37.cell? ⟨gb468,0,none⟩ = some (.bool ((rd_T83 l0_0 x3_1).f0)):=(zCl BK468.out 0).trans rfl;have hcz38_1 : w37.cell? ⟨gb468,1,none⟩ = some (.int .i64 ((rd_T83 l0_0 x3_1).f1)):=(zCl BK468.out 1).trans rfl;have hcz38_2 : w37.cell? ⟨gb468,2,none⟩ = some (.slice (some ad470) ((rd_T83 l0_0 x3_1).f2).length c467_2):=(zCl BK468.out 2).trans rfl;have hfz38_0:=zFr BK468.out 0;have hfz38_1:=zFr BK468.out 1;have hfz38_2:=zFr BK468.out 2;have p472 : 0 ≤ ((ji22) : Int):=zDe (by first | (with_reducible assumption) | assumption);have q472 : (ji22) < (((rd_T83 l0_0 x3_1).f2).length : Int):=zDe (by first | (with_reducible assumption) | assumption);obtain ⟨ad472,e472,hx472_0,hx472_1⟩:=at_T101 HR467_2.out (ji22) p472 q472;obtain rfl : ad470 = ad472:=(by injection e472);replace hx472_0:=(HB.out.cell (zBl w _ hx472_0)).trans hx472_0;replace hx472_1:=(HB.out.cell (zBl w _ hx472_1)).trans hx472_1;replace p472:=eq_true p472;replace q472:=eq_true q472));go_roundg k3;case measure=>have:=HK1.out;have:=HJ4.out;have:=HK3.out;omega
               case rel=>exact ⟨(wrap64 (x5_3 + 1)),(by first | rfl | (simp;done) | (simp [*];done)),H',⟨by have:=HK1.out;have:=HJ4.out;have:=HK3.out;omega⟩,⟨bs BK465⟩,⟨bs BK468⟩,⟨hs2 HB GE465 GE468⟩⟩
              rw [if_neg c24] at H;exact absurd H (by simp)
             rw [if_neg c23] at H;exact absurd H (by simp)
            rw [if_neg c21] at H;have c21b0 : decide (0 < x5_3) = false:=decide_eq_false c21;clear c21;have H':=zMk H;clear H;have hnb39:=NB468_465.out;have hnc39:=NB465_468.out;have hcz40_0 : wr.cell? ⟨gb468,0,none⟩ = some (.bool ((rd_T83 l0_0 x3_1).f0)):=(zCl BK468.out 0).trans rfl;have hcz40_1 : wr.cell? ⟨gb468,1,none⟩ = some (.int .i64 ((rd_T83 l0_0 x3_1).f1)):=(zCl BK468.out 1).trans rfl;have hcz40_2 : wr.cell? ⟨gb468,2,none⟩ = some (.slice A467_2 ((rd_T83 l0_0 x3_1).f2).length c467_2):=(zCl BK468.out 2).trans rfl;have hfz40_0:=zFr BK468.out 0;have hfz40_1:=zFr BK468.out 1;have hfz40_2:=zFr BK468.out 2;have p470 : 0 ≤ (x5_3 : Int):=zDe (by first | (with_reducible assumption) | assumption);have q470 : x5_3 < (((rd_T83 l0_0 x3_1).f2).length : Int):=zDe (by first | (with_reducible assumption) | assumption);obtain ⟨ad470,e470,hx470_0,hx470_1⟩:=at_T101 HR467_2.out x5_3 p470 q470;cases e470;replace hx470_0:=(HB.out.cell (zBl w _ hx470_0)).trans hx470_0;replace hx470_1:=(HB.out.cell (zBl w _ hx470_1)).trans hx470_1;replace p470:=eq_true p470;replace q470:=eq_true q470;go_wp2_with (first | ((with_reducible refine gate_callee (f:=135) rfl ?_);refine goesL_ (some 40) rfl rfl Try.func135 (by kernel_rfl) rfl #[.agg #[.int .i64 ((rd_T101 ((rd_T83 l0_0 x3_1).f2) x5_3).f0),.string ((rd_T101 ((rd_T83 l0_0 x3_1).f2) x5_3).f1)]] rfl (by (try simp only [List.map_toArray,List.map_cons,List.map_nil]);first | done | rfl | (simp only [List.length_drop,List.length_take];rfl)) ?_;(with_reducible refine (spec_l05Leaf.calls ((rd_T101 ((rd_T83 l0_0 x3_1).f2) x5_3).f0) ((rd_T101 ((rd_T83 l0_0 x3_1).f2) x5_3).f1) true _ A19.out).mono ?_);rintro e w41 ⟨rfl,hb⟩;refine ⟨_,rfl,?_⟩;have n0_:=zMk (blk_below (g:=gb465) (o:=.cells #[.slice (some ad467) l0_0.length c0_0] 52 (0,0)) (bs BK465) hb);have n1_:=zMk (blk_below (g:=gb468) (o:=.cells #[.bool ((rd_T83 l0_0 x3_1).f0),.int .i64 ((rd_T83 l0_0 x3_1).f1),.slice (some ad470) ((rd_T83 l0_0 x3_1).f2).length c467_2] 83 (0,0)) (bs BK468) hb);have n2_:=zMk (below_step (hs2 HB GE465 GE468) hb);clear BK465;clear BK468;clear HB;have BK465:=n0_;have BK468:=n1_;have HB:=n2_;clear n0_ n1_ n2_;(try clear hb);(try clear hb2);(try clear hk);(try clear hi)));go_roundg k3;case measure=>have:=HK1.out;have:=HJ4.out;have:=HK3.out;omega
            case rel=>exact ⟨(wrap64 (x5_3 + 1)),(by first | rfl | (simp;done) | (simp [*];done)),H',⟨by have:=HK1.out;have:=HJ4.out;have:=HK3.out;omega⟩,⟨bs BK465⟩,⟨bs BK468⟩,⟨hs2 HB GE465 GE468⟩⟩
           replace c20:=Bool.eq_false_iff.mpr c20;subst c20;have H1 : (some false) = some r:=by rw [if_neg (show ¬ (false = true) by decide)] at H;exact H
           clear H;have H:=H1;clear H1;obtain rfl:=Option.some.inj H;have hnb42:=NB468_465.out;have hnc42:=NB465_468.out;have hcz43_0 : wr.cell? ⟨gb468,0,none⟩ = some (.bool ((rd_T83 l0_0 x3_1).f0)):=(zCl BK468.out 0).trans rfl;have hcz43_1 : wr.cell? ⟨gb468,1,none⟩ = some (.int .i64 ((rd_T83 l0_0 x3_1).f1)):=(zCl BK468.out 1).trans rfl;have hcz43_2 : wr.cell? ⟨gb468,2,none⟩ = some (.slice A467_2 ((rd_T83 l0_0 x3_1).f2).length c467_2):=(zCl BK468.out 2).trans rfl;have hfz43_0:=zFr BK468.out 0;have hfz43_1:=zFr BK468.out 1;have hfz43_2:=zFr BK468.out 2;have p470 : 0 ≤ (x5_3 : Int):=zDe (by first | (with_reducible assumption) | assumption);have q470 : x5_3 < (((rd_T83 l0_0 x3_1).f2).length : Int):=zDe (by first | (with_reducible assumption) | assumption);obtain ⟨ad470,e470,hx470_0,hx470_1⟩:=at_T101 HR467_2.out x5_3 p470 q470;cases e470;replace hx470_0:=(HB.out.cell (zBl w _ hx470_0)).trans hx470_0;replace hx470_1:=(HB.out.cell (zBl w _ hx470_1)).trans hx470_1;replace p470:=eq_true p470;replace q470:=eq_true q470;go_wp2_with (first | ((with_reducible refine gate_callee (f:=135) rfl ?_);refine goesL_ (some 40) rfl rfl Try.func135 (by kernel_rfl) rfl #[.agg #[.int .i64 ((rd_T101 ((rd_T83 l0_0 x3_1).f2) x5_3).f0),.string ((rd_T101 ((rd_T83 l0_0 x3_1).f2) x5_3).f1)]] rfl (by (try simp only [List.map_toArray,List.map_cons,List.map_nil]);first | done | rfl | (simp only [List.length_drop,List.length_take];rfl)) ?_;(with_reducible refine (spec_l05Leaf.calls ((rd_T101 ((rd_T83 l0_0 x3_1).f2) x5_3).f0) ((rd_T101 ((rd_T83 l0_0 x3_1).f2) x5_3).f1) false _ A19.out).mono ?_);rintro e w44 ⟨rfl,hb⟩;refine ⟨_,rfl,?_⟩;have n0_:=zMk (blk_below (g:=gb465) (o:=.cells #[.slice (some ad467) l0_0.length c0_0] 52 (0,0)) (bs BK465) hb);have n1_:=zMk (blk_below (g:=gb468) (o:=.cells #[.bool ((rd_T83 l0_0 x3_1).f0),.int .i64 ((rd_T83 l0_0 x3_1).f1),.slice (some ad470) ((rd_T83 l0_0 x3_1).f2).length c467_2] 83 (0,0)) (bs BK468) hb);have n2_:=zMk (below_step (hs2 HB GE465 GE468) hb);clear BK465;clear BK468;clear HB;have BK465:=n0_;have BK468:=n1_;have HB:=n2_;clear n0_ n1_ n2_;(try clear hb);(try clear hb2);(try clear hk);(try clear hi)))
           go_ret
           exact ⟨by first | rfl | (simp [errW_none,errW_some] <;> rfl) | (simp [*,errW_none,errW_some] <;> rfl),hs2 HB GE465 GE468⟩
          rw [if_neg c18] at H;exact absurd H (by simp)
         rw [if_neg c17] at H;have c17b0 : decide (x5_3 < (((rd_T83 l0_0 x3_1).f2).length : Int)) = false:=decide_eq_false c17;clear c17;have H':=zMk H;clear H;have hnb45:=NB468_465.out;have hnc45:=NB465_468.out;have hcz46_0 : wr.cell? ⟨gb468,0,none⟩ = some (.bool ((rd_T83 l0_0 x3_1).f0)):=(zCl BK468.out 0).trans rfl;have hcz46_1 : wr.cell? ⟨gb468,1,none⟩ = some (.int .i64 ((rd_T83 l0_0 x3_1).f1)):=(zCl BK468.out 1).trans rfl;have hcz46_2 : wr.cell? ⟨gb468,2,none⟩ = some (.slice A467_2 ((rd_T83 l0_0 x3_1).f2).length c467_2):=(zCl BK468.out 2).trans rfl;have hfz46_0:=zFr BK468.out 0;have hfz46_1:=zFr BK468.out 1;have hfz46_2:=zFr BK468.out 2
         go_wp2
         go_roundg k3;case measure=>have:=HK1.out;have:=HJ4.out;have:=HK3.out;omega
         case rel=>exact ⟨(wrap64 (x3_1 + 1)),(by first | rfl | (simp;done) | (simp [*];done)),H',⟨by have:=HK1.out;have:=HJ4.out;have:=HK3.out;omega⟩,⟨bs BK465⟩,⟨hs2 HB GE465 GE468⟩⟩
    rw [if_neg c4] at H;exact absurd H (by simp)
   rw [if_neg c3] at H;have c3b0 : decide (x3_1 < (l0_0.length : Int)) = false:=decide_eq_false c3;clear c3;replace H:=Option.bind_eq_some_iff.mp H;obtain ⟨t466,A470,H⟩:=H;replace H : (some t466) = some r:=H;have A47:=zMk A470;clear A470;obtain rfl:=Option.some.inj H;have hcz48_0 : wr.cell? ⟨gb465,0,none⟩ = some (.slice A0_0 l0_0.length c0_0):=(zCl BK465.out 0).trans rfl;have hfz48_0:=zFr BK465.out 0;go_wp2_with (first | ((with_reducible refine gate_callee (f:=63) rfl ?_);refine goesL_ (some 68) rfl rfl Try.func63 (by kernel_rfl) rfl #[.int .i64 (l0_0.length : Int),.int .i64 3,.int .i64 10] rfl (by (try simp only [List.map_toArray,List.map_cons,List.map_nil]);first | done | rfl | (simp only [List.length_drop,List.length_take];rfl)) ?_;(with_reducible refine (spec_l01In.calls (l0_0.length : Int) 3 10 t466 _ A47.out).mono ?_);rintro e w' ⟨rfl,⟨nd,rfl⟩⟩;refine ⟨_,rfl,?_⟩))
   go_ret
   exact ⟨by first | rfl | (simp [errW_none,errW_some] <;> rfl) | (simp [*,errW_none,errW_some] <;> rfl),hs1 HB GE465⟩
def spec_NextBlank.l0 : Nat → Int → Bool → Int → List (S101) → Option (Int)
 | 0,_,_,_,_=>none
 | k + 1,x3,x475000,x475001,x475002=>if x3 < (x475002.length : Int) then (if 0 ≤ x3 then (if ((rd_T101 x475002 x3).f0) = 0 then (some x3) else (spec_NextBlank.l0 k (wrap64 (x3 + 1)) x475000 x475001 x475002)) else (none)) else (some 4)
def spec_NextBlank.f (k : Nat) (a0_0 : Bool) (a0_1 : Int) (l0_2 : List (S101)) : Option (Int):=spec_NextBlank.l0 k 0 a0_0 a0_1 l0_2
theorem spec_NextBlank.mono_l : ∀ k,(∀ y0 y1 y2 y3,LeO (spec_NextBlank.l0 k y0 y1 y2 y3) (spec_NextBlank.l0 (k + 1) y0 y1 y2 y3))
 | 0=>fun _ _ _ _ r h=>by simp [spec_NextBlank.l0] at h
 | k + 1=>by
  have ih0:=spec_NextBlank.mono_l k;intro y0 y1 y2 y3;unfold spec_NextBlank.l0
  repeat' first
  | (with_reducible exact ih0 _ _ _ _)
  | (with_reducible exact LeO.refl _)
  | (with_reducible exact LeO.none _)
  | (with_reducible refine LeO.ite ?_ ?_)
  | (with_reducible refine LeO.bind ?_ (fun _=>?_))
  | exact ih0 _ _ _ _
  | exact LeO.none _
  | refine LeO.ite ?_ ?_
  | refine LeO.bind ?_ (fun _=>?_)
theorem spec_NextBlank.mono : ∀ a0 a1 a2 k,LeO (spec_NextBlank.f k a0 a1 a2) (spec_NextBlank.f (k + 1) a0 a1 a2):=by
 intro a0 a1 a2 k;have ih0:=spec_NextBlank.mono_l k;unfold spec_NextBlank.f
 repeat' first
   | (with_reducible exact ih0 _ _ _ _)
   | (with_reducible exact LeO.refl _)
   | (with_reducible exact LeO.none _)
   | (with_reducible refine LeO.ite ?_ ?_)
   | (with_reducible refine LeO.bind ?_ (fun _=>?_))
   | exact ih0 _ _ _ _
   | exact LeO.none _
   | refine LeO.ite ?_ ?_
   | refine LeO.bind ?_ (fun _=>?_)
set_option maxHeartbeats 8000000 in
set_option maxRecDepth 100000 in
theorem spec_NextBlank.calls (k : Nat) (a0_0 : Bool) (a0_1 : Int) (A0_2 : Option Addr) (c0_2 : Nat) (l0_2 : List (S101)) (r : Int) (w : World) (hr0_2 : Kd.C k101 w A0_2 l0_2.length l0_2) (hc0_2 : l0_2.length ≤ c0_2) (h : spec_NextBlank.f k a0_0 a0_1 l0_2 = some r) :
  Calls Try.prog 113 #[.agg #[.bool a0_0,.int .i64 a0_1,.slice A0_2 l0_2.length c0_2]] w fun e w'=>e = .returned (.int .i64 r) ∧ Below w.heap.size w w':=by
 have hu83:=Try.underlying83;have HR0_2:=zMk hr0_2;have HC0_2:=zMk hc0_2;clear hr0_2 hc0_2;have HB:=zMk (Below.refl w.heap.size w);have H : (spec_NextBlank.l0 k 0 a0_0 a0_1 l0_2) = some r:=h;clear h;have H':=zMk H;clear H
 go_enter Try.func113,Try.ntmps113
 go_wp2_with (first | ((with_reducible refine gate_dst (N:=1) rfl ?_);refine box_event ?hg (N:=1) ?hd (cs:=#[.bool a0_0,.int .i64 a0_1,.slice A0_2 l0_2.length c0_2]) (t:=83) ?hr ?_;(case hd=>rfl);(case hg=>rfl);(case hr=>first | (go_simp;done) | (go_simp;rfl));intro gb474 hg w2 hbox hb;have n0_:=zMk (below_step (hs HB) hb);have n1_:=zMk (hbox);have n2_:=zMk ((by rw [hg];exact (below_size (hs HB)) : w.heap.size ≤ gb474));have n3_:=zMk ((by rw [hg];exact (below_size (hs HB)) : w.heap.size ≤ gb474));clear HB;have HB:=n0_;have BK474:=n1_;have GW474:=n2_;have GE474:=n3_;clear n0_ n1_ n2_ n3_;clear hb hbox hg));go_loopg [3] k (fun kq v3 w'=>∃ (x3_1 : Int),v3 = .int .i64 x3_1 ∧ Aside0 (spec_NextBlank.l0 kq x3_1 a0_0 a0_1 l0_2 = some r) ∧ Aside0 (kq ≤ k) ∧ Aside0 (w'.heap[gb474]? = some (.cells #[.bool a0_0,.int .i64 a0_1,(.slice A0_2 l0_2.length c0_2)] 83 (0,0))) ∧ Aside0 (Below w.heap.size w w'));case atStart=>exact ⟨(0),(by first | rfl | (simp;done) | (simp [*];done)),H',⟨Nat.le_refl _⟩,⟨bs BK474⟩,⟨hs1 HB GE474⟩⟩
 case round =>
  clear H'
  try clear c1
  try clear p2
  obtain ⟨x3_1,rfl,HA,HK1,BK474,HB⟩:=hrel;cases gk with
  | zero=>exact absurd HA.out (by simp [spec_NextBlank.l0])
  | succ k1 =>
   have H:=HA.out;clear HA;simp only [spec_NextBlank.l0] at H
   by_cases c3 : x3_1 < (l0_2.length : Int)
   ·rw [if_pos c3] at H;have c3b0 : decide (x3_1 < (l0_2.length : Int)) = true:=decide_eq_true c3;clear c3
    by_cases c4 : 0 ≤ x3_1
    ·rw [if_pos c4] at H;have c4b0 : decide (0 ≤ x3_1) = true:=decide_eq_true c4;clear c4
     by_cases c5 : ((rd_T101 l0_2 x3_1).f0) = 0
     ·rw [if_pos c5] at H;have c5b0 : (((rd_T101 l0_2 x3_1).f0) == 0) = true:=beq_iff_eq.mpr c5;have c5b1 : (((rd_T101 l0_2 x3_1).f0) != 0) = false:=bne_eq_false_iff_eq.mpr c5;clear c5;obtain rfl:=Option.some.inj H;have hcz6_0 : wr.cell? ⟨gb474,0,none⟩ = some (.bool a0_0):=(zCl BK474.out 0).trans rfl;have hcz6_1 : wr.cell? ⟨gb474,1,none⟩ = some (.int .i64 a0_1):=(zCl BK474.out 1).trans rfl;have hcz6_2 : wr.cell? ⟨gb474,2,none⟩ = some (.slice A0_2 l0_2.length c0_2):=(zCl BK474.out 2).trans rfl;have hfz6_0:=zFr BK474.out 0;have hfz6_1:=zFr BK474.out 1;have hfz6_2:=zFr BK474.out 2;have p475 : 0 ≤ (x3_1 : Int):=zDe (by first | (with_reducible assumption) | assumption);have q475 : x3_1 < (l0_2.length : Int):=zDe (by first | (with_reducible assumption) | assumption);obtain ⟨ad475,e475,hx475_0,hx475_1⟩:=at_T101 HR0_2.out x3_1 p475 q475;cases e475;replace hx475_0:=(HB.out.cell (zBl w _ hx475_0)).trans hx475_0;replace hx475_1:=(HB.out.cell (zBl w _ hx475_1)).trans hx475_1;replace p475:=eq_true p475;replace q475:=eq_true q475
      go_wp2
      go_ret
      exact ⟨by first | rfl | (simp [errW_none,errW_some] <;> rfl) | (simp [*,errW_none,errW_some] <;> rfl),hs1 HB GE474⟩
     rw [if_neg c5] at H;have c5b0 : (((rd_T101 l0_2 x3_1).f0) == 0) = false:=beq_eq_false_iff_ne.mpr c5;have c5b1 : (((rd_T101 l0_2 x3_1).f0) != 0) = true:=bne_iff_ne.mpr c5;have H':=zMk H;clear H;have hcz7_0 : wr.cell? ⟨gb474,0,none⟩ = some (.bool a0_0):=(zCl BK474.out 0).trans rfl;have hcz7_1 : wr.cell? ⟨gb474,1,none⟩ = some (.int .i64 a0_1):=(zCl BK474.out 1).trans rfl;have hcz7_2 : wr.cell? ⟨gb474,2,none⟩ = some (.slice A0_2 l0_2.length c0_2):=(zCl BK474.out 2).trans rfl;have hfz7_0:=zFr BK474.out 0;have hfz7_1:=zFr BK474.out 1;have hfz7_2:=zFr BK474.out 2;have p475 : 0 ≤ (x3_1 : Int):=zDe (by first | (with_reducible assumption) | assumption);have q475 : x3_1 < (l0_2.length : Int):=zDe (by first | (with_reducible assumption) | assumption);obtain ⟨ad475,e475,hx475_0,hx475_1⟩:=at_T101 HR0_2.out x3_1 p475 q475;cases e475;replace hx475_0:=(HB.out.cell (zBl w _ hx475_0)).trans hx475_0;replace hx475_1:=(HB.out.cell (zBl w _ hx475_1)).trans hx475_1;replace p475:=eq_true p475;replace q475:=eq_true q475
     go_wp2
     go_roundg k1;case measure=>have:=HK1.out;omega
     case rel=>exact ⟨(wrap64 (x3_1 + 1)),(by first | rfl | (simp;done) | (simp [*];done)),H',⟨by have:=HK1.out;omega⟩,⟨bs BK474⟩,⟨hs1 HB GE474⟩⟩
    rw [if_neg c4] at H;exact absurd H (by simp)
   rw [if_neg c3] at H;have c3b0 : decide (x3_1 < (l0_2.length : Int)) = false:=decide_eq_false c3;clear c3;obtain rfl:=Option.some.inj H;have hcz8_0 : wr.cell? ⟨gb474,0,none⟩ = some (.bool a0_0):=(zCl BK474.out 0).trans rfl;have hcz8_1 : wr.cell? ⟨gb474,1,none⟩ = some (.int .i64 a0_1):=(zCl BK474.out 1).trans rfl;have hcz8_2 : wr.cell? ⟨gb474,2,none⟩ = some (.slice A0_2 l0_2.length c0_2):=(zCl BK474.out 2).trans rfl;have hfz8_0:=zFr BK474.out 0;have hfz8_1:=zFr BK474.out 1;have hfz8_2:=zFr BK474.out 2
   go_wp2
   go_ret
   exact ⟨by first | rfl | (simp [errW_none,errW_some] <;> rfl) | (simp [*,errW_none,errW_some] <;> rfl),hs1 HB GE474⟩
def spec_l05May.f (k : Nat) (l0_0 : List (S83)) (a1 : Int) (a2 : Int) (a3 : ByteArray) : Option (Bool):=(spec_l01In.f a1 0 (wrap64 ((l0_0.length : Int) - 1))).bind fun t477=>(if t477 = true then (if 0 ≤ a1 then (if a1 < (l0_0.length : Int) then (if ((rd_T83 l0_0 a1).f0 = true) then (some false) else (if a2 < 4 then ((spec_NextBlank.f k ((rd_T83 l0_0 a1).f0) ((rd_T83 l0_0 a1).f1) ((rd_T83 l0_0 a1).f2)).bind fun t480=>(if a2 = t480 then ((spec_l01In.f (a3.size : Int) 1 120).bind fun t481=>(some t481)) else (some false))) else (some false))) else (none)) else (none)) else (some false))
theorem spec_l05May.mono : ∀ a0 a1 a2 a3 k,LeO (spec_l05May.f k a0 a1 a2 a3) (spec_l05May.f (k + 1) a0 a1 a2 a3):=by
 intro a0 a1 a2 a3 k;unfold spec_l05May.f
 repeat' first
   | (with_reducible exact spec_NextBlank.mono _ _ _ _)
   | (with_reducible exact LeO.refl _)
   | (with_reducible exact LeO.none _)
   | (with_reducible refine LeO.ite ?_ ?_)
   | (with_reducible refine LeO.bind ?_ (fun _=>?_))
   | exact spec_NextBlank.mono _ _ _ _
   | exact LeO.none _
   | refine LeO.ite ?_ ?_
   | refine LeO.bind ?_ (fun _=>?_)
set_option maxHeartbeats 8000000 in
set_option maxRecDepth 100000 in
theorem spec_l05May.calls (k : Nat) (A0_0 : Option Addr) (c0_0 : Nat) (l0_0 : List (S83)) (a1 : Int) (a2 : Int) (a3 : ByteArray) (r : Bool) (w : World) (hr0_0 : Kd.C k83 w A0_0 l0_0.length l0_0) (hc0_0 : l0_0.length ≤ c0_0) (h : spec_l05May.f k l0_0 a1 a2 a3 = some r) :
  Calls Try.prog 109 #[.agg #[.slice A0_0 l0_0.length c0_0],.int .i64 a1,.int .i64 a2,.string a3] w fun e w'=>e = .returned (.bool r) ∧ Below w.heap.size w w':=by
 have hu52:=Try.underlying52;have hu83:=Try.underlying83;have HR0_0:=zMk hr0_0;have HC0_0:=zMk hc0_0;clear hr0_0 hc0_0;have HB:=zMk (Below.refl w.heap.size w);have H : ((spec_l01In.f a1 0 (wrap64 ((l0_0.length : Int) - 1))).bind fun t477=>(if t477 = true then (if 0 ≤ a1 then (if a1 < (l0_0.length : Int) then (if ((rd_T83 l0_0 a1).f0 = true) then (some false) else (if a2 < 4 then ((spec_NextBlank.f k ((rd_T83 l0_0 a1).f0) ((rd_T83 l0_0 a1).f1) ((rd_T83 l0_0 a1).f2)).bind fun t480=>(if a2 = t480 then ((spec_l01In.f (a3.size : Int) 1 120).bind fun t481=>(some t481)) else (some false))) else (some false))) else (none)) else (none)) else (some false))) = some r:=h;clear h;replace H:=Option.bind_eq_some_iff.mp H;obtain ⟨t477,A50,H⟩:=H;replace H : (if t477 = true then (if 0 ≤ a1 then (if a1 < (l0_0.length : Int) then (if ((rd_T83 l0_0 a1).f0 = true) then (some false) else (if a2 < 4 then ((spec_NextBlank.f k ((rd_T83 l0_0 a1).f0) ((rd_T83 l0_0 a1).f1) ((rd_T83 l0_0 a1).f2)).bind fun t480=>(if a2 = t480 then ((spec_l01In.f (a3.size : Int) 1 120).bind fun t481=>(some t481)) else (some false))) else (some false))) else (none)) else (none)) else (some false)) = some r:=H;have A5:=zMk A50;clear A50
 go_enter Try.func109,Try.ntmps109
 go_upto_region 1 with (first | ((with_reducible refine gate_dst (N:=4) rfl ?_);(try (refine gate_guard (by rfl) ?_;dsimp only));refine box_event ?hg (N:=4) ?hd (cs:=#[.slice A0_0 l0_0.length c0_0]) (t:=52) ?hr ?_;(case hd=>rfl);(case hg=>rfl);(case hr=>first | (go_simp;done) | (go_simp;rfl));intro gb476 hg w11 hbox hb;have n0_:=zMk (below_step (hs HB) hb);have n1_:=zMk (hbox);have n2_:=zMk ((by rw [hg];exact (below_size (hs HB)) : w.heap.size ≤ gb476));have n3_:=zMk ((by rw [hg];exact (below_size (hs HB)) : w.heap.size ≤ gb476));clear HB;have HB:=n0_;have BK476:=n1_;have GW476:=n2_;have GE476:=n3_;clear n0_ n1_ n2_ n3_;clear hb hbox hg;have hcz12_0 : w11.cell? ⟨gb476,0,none⟩ = some (.slice A0_0 l0_0.length c0_0):=(zCl BK476.out 0).trans rfl;have hfz12_0:=zFr BK476.out 0))
 (try simp only [Act.put,zS1,zS2,zS3])
 by_cases c6 : t477 = true
 ·subst c6;have H1 : (if 0 ≤ a1 then (if a1 < (l0_0.length : Int) then (if ((rd_T83 l0_0 a1).f0 = true) then (some false) else (if a2 < 4 then ((spec_NextBlank.f k ((rd_T83 l0_0 a1).f0) ((rd_T83 l0_0 a1).f1) ((rd_T83 l0_0 a1).f2)).bind fun t480=>(if a2 = t480 then ((spec_l01In.f (a3.size : Int) 1 120).bind fun t481=>(some t481)) else (some false))) else (some false))) else (none)) else (none)) = some r:=by rw [if_pos rfl] at H;exact H
  clear H;have H:=H1;clear H1
  by_cases c7 : 0 ≤ a1
  ·rw [if_pos c7] at H;have c7b0 : decide (0 ≤ a1) = true:=decide_eq_true c7;clear c7
   by_cases c8 : a1 < (l0_0.length : Int)
   ·rw [if_pos c8] at H;have c8b0 : decide (a1 < (l0_0.length : Int)) = true:=decide_eq_true c8;clear c8;obtain ⟨bq9,hbq9⟩ : ∃ b_ : Bool,b_ = ((rd_T83 l0_0 a1).f0):=⟨_,rfl⟩;replace H : (if (bq9 = true) then (some false) else (if a2 < 4 then ((spec_NextBlank.f k (bq9) ((rd_T83 l0_0 a1).f1) ((rd_T83 l0_0 a1).f2)).bind fun t480=>(if a2 = t480 then ((spec_l01In.f (a3.size : Int) 1 120).bind fun t481=>(some t481)) else (some false))) else (some false))) = some r:=by rw [← hbq9] at H;exact H
    have Nbq9:=zMk hbq9;clear hbq9
    (try rw [← Nbq9.out] at A5)
    by_cases c10 : (bq9 = true)
    ·subst c10;have H1 : (some false) = some r:=by rw [if_pos rfl] at H;exact H
     clear H;have H:=H1;clear H1;obtain rfl:=Option.some.inj H;go_wp2_with (first | ((with_reducible refine gate_callee (f:=63) rfl ?_);refine goesL_ (some 14) rfl rfl Try.func63 (by kernel_rfl) rfl #[.int .i64 a1,.int .i64 0,.int .i64 (wrap64 ((l0_0.length : Int) - 1))] rfl (by (try simp only [List.map_toArray,List.map_cons,List.map_nil]);first | done | rfl | (simp only [List.length_drop,List.length_take];rfl)) ?_;(with_reducible refine (spec_l01In.calls a1 0 (wrap64 ((l0_0.length : Int) - 1)) true _ A5.out).mono ?_);rintro e w' ⟨rfl,⟨nd,rfl⟩⟩;refine ⟨_,rfl,?_⟩;have p478 : 0 ≤ (a1 : Int):=zDe (by first | (with_reducible assumption) | assumption);have q478 : a1 < (l0_0.length : Int):=zDe (by first | (with_reducible assumption) | assumption);obtain ⟨ad478,A478_2,c478_2,e478,hx478_0,hx478_1,hx478_2,hl478_2,hi478_2⟩:=at_T83 HR0_0.out a1 p478 q478;(try rw [← Nbq9.out] at hx478_0);cases e478;replace hx478_0:=(HB.out.cell (zBl w _ hx478_0)).trans hx478_0;replace hx478_1:=(HB.out.cell (zBl w _ hx478_1)).trans hx478_1;replace hx478_2:=(HB.out.cell (zBl w _ hx478_2)).trans hx478_2;have HR478_2:=zMk hi478_2;have HC478_2:=zMk hl478_2;clear hi478_2 hl478_2;replace p478:=eq_true p478;replace q478:=eq_true q478))
     go_ret
     exact ⟨by first | rfl | (simp [errW_none,errW_some] <;> rfl) | (simp [*,errW_none,errW_some] <;> rfl),hs1 HB GE476⟩
    replace c10:=Bool.eq_false_iff.mpr c10;subst c10;have H1 : (if a2 < 4 then ((spec_NextBlank.f k (false) ((rd_T83 l0_0 a1).f1) ((rd_T83 l0_0 a1).f2)).bind fun t480=>(if a2 = t480 then ((spec_l01In.f (a3.size : Int) 1 120).bind fun t481=>(some t481)) else (some false))) else (some false)) = some r:=by rw [if_neg (show ¬ (false = true) by decide)] at H;exact H
    clear H;have H:=H1;clear H1
    by_cases c13 : a2 < 4
    ·rw [if_pos c13] at H;have c13b0 : decide (a2 < 4) = true:=decide_eq_true c13;clear c13;replace H:=Option.bind_eq_some_iff.mp H;obtain ⟨t480,A140,H⟩:=H;replace H : (if a2 = t480 then ((spec_l01In.f (a3.size : Int) 1 120).bind fun t481=>(some t481)) else (some false)) = some r:=H;have A14:=zMk A140;clear A140
     by_cases c15 : a2 = t480
     ·rw [if_pos c15] at H;have c15b0 : (a2 == t480) = true:=beq_iff_eq.mpr c15;have c15b1 : (a2 != t480) = false:=bne_eq_false_iff_eq.mpr c15;clear c15;replace H:=Option.bind_eq_some_iff.mp H;obtain ⟨t481,A160,H⟩:=H;replace H : (some t481) = some r:=H;have A16:=zMk A160;clear A160;obtain rfl:=Option.some.inj H;go_wp2_with (first | ((with_reducible refine gate_callee (f:=63) rfl ?_);refine goesL_ (some 14) rfl rfl Try.func63 (by kernel_rfl) rfl #[.int .i64 a1,.int .i64 0,.int .i64 (wrap64 ((l0_0.length : Int) - 1))] rfl (by (try simp only [List.map_toArray,List.map_cons,List.map_nil]);first | done | rfl | (simp only [List.length_drop,List.length_take];rfl)) ?_;(with_reducible refine (spec_l01In.calls a1 0 (wrap64 ((l0_0.length : Int) - 1)) true _ A5.out).mono ?_);rintro e w' ⟨rfl,⟨nd,rfl⟩⟩;refine ⟨_,rfl,?_⟩;have p478 : 0 ≤ (a1 : Int):=zDe (by first | (with_reducible assumption) | assumption);have q478 : a1 < (l0_0.length : Int):=zDe (by first | (with_reducible assumption) | assumption);obtain ⟨ad478,A478_2,c478_2,e478,hx478_0,hx478_1,hx478_2,hl478_2,hi478_2⟩:=at_T83 HR0_0.out a1 p478 q478;(try rw [← Nbq9.out] at hx478_0);cases e478;replace hx478_0:=(HB.out.cell (zBl w _ hx478_0)).trans hx478_0;replace hx478_1:=(HB.out.cell (zBl w _ hx478_1)).trans hx478_1;replace hx478_2:=(HB.out.cell (zBl w _ hx478_2)).trans hx478_2;have HR478_2:=zMk hi478_2;have HC478_2:=zMk hl478_2;clear hi478_2 hl478_2;replace p478:=eq_true p478;replace q478:=eq_true q478;have p479 : 0 ≤ (a1 : Int):=zDe (by first | (with_reducible assumption) | assumption);have q479 : a1 < (l0_0.length : Int):=zDe (by first | (with_reducible assumption) | assumption);obtain ⟨ad479,A479_2,c479_2,e479,hx479_0,hx479_1,hx479_2,hl479_2,hi479_2⟩:=at_T83 HR0_0.out a1 p479 q479;(try rw [← Nbq9.out] at hx479_0);obtain rfl : ad478 = ad479:=(by injection e479);replace hx479_0:=(HB.out.cell (zBl w _ hx479_0)).trans hx479_0;replace hx479_1:=(HB.out.cell (zBl w _ hx479_1)).trans hx479_1;replace hx479_2:=(HB.out.cell (zBl w _ hx479_2)).trans hx479_2;have HR479_2:=zMk hi479_2;have HC479_2:=zMk hl479_2;clear hi479_2 hl479_2;replace p479:=eq_true p479;replace q479:=eq_true q479;have ea_:=Option.some.inj (hx478_2.symm.trans hx479_2);injection ea_ with ea_ en_ ec_;subst ea_;subst ec_;clear en_) | (go_at_call 113;(with_reducible refine (spec_NextBlank.calls k false ((rd_T83 l0_0 a1).f1) _ _ ((rd_T83 l0_0 a1).f2) t480 _ ?side1 ?side2 A14.out).mono ?_);(case side1=>repeat (first | exact (Kd.C_below HR479_2.out (hs1 HB GE476)) | (with_reducible refine Kd.C_alloc ?_ _) | (with_reducible refine Kd.C_drewN ?_ _) | (with_reducible refine Kd.C_drew ?_)));(case side2=>exact HC479_2.out);rintro e w19 ⟨rfl,hb⟩;have n0_:=zMk (blk_below (g:=gb476) (o:=.cells #[.slice (some ad478) l0_0.length c0_0] 52 (0,0)) (bs BK476) hb);have n1_:=zMk (below_step (hs1 HB GE476) hb);clear BK476;clear HB;have BK476:=n0_;have HB:=n1_;clear n0_ n1_;(try clear hb);(try clear hb2);(try clear hk);(try clear hi)) | (go_at_call 63;(with_reducible refine (spec_l01In.calls (a3.size : Int) 1 120 t481 _ A16.out).mono ?_);rintro e w' ⟨rfl,⟨nd,rfl⟩⟩))
      go_ret
      exact ⟨by first | rfl | (simp [errW_none,errW_some] <;> rfl) | (simp [*,errW_none,errW_some] <;> rfl),hs1 HB GE476⟩
     rw [if_neg c15] at H;have c15b0 : (a2 == t480) = false:=beq_eq_false_iff_ne.mpr c15;have c15b1 : (a2 != t480) = true:=bne_iff_ne.mpr c15;obtain rfl:=Option.some.inj H;go_wp2_with (first | ((with_reducible refine gate_callee (f:=63) rfl ?_);refine goesL_ (some 14) rfl rfl Try.func63 (by kernel_rfl) rfl #[.int .i64 a1,.int .i64 0,.int .i64 (wrap64 ((l0_0.length : Int) - 1))] rfl (by (try simp only [List.map_toArray,List.map_cons,List.map_nil]);first | done | rfl | (simp only [List.length_drop,List.length_take];rfl)) ?_;(with_reducible refine (spec_l01In.calls a1 0 (wrap64 ((l0_0.length : Int) - 1)) true _ A5.out).mono ?_);rintro e w' ⟨rfl,⟨nd,rfl⟩⟩;refine ⟨_,rfl,?_⟩;have p478 : 0 ≤ (a1 : Int):=zDe (by first | (with_reducible assumption) | assumption);have q478 : a1 < (l0_0.length : Int):=zDe (by first | (with_reducible assumption) | assumption);obtain ⟨ad478,A478_2,c478_2,e478,hx478_0,hx478_1,hx478_2,hl478_2,hi478_2⟩:=at_T83 HR0_0.out a1 p478 q478;(try rw [← Nbq9.out] at hx478_0);cases e478;replace hx478_0:=(HB.out.cell (zBl w _ hx478_0)).trans hx478_0;replace hx478_1:=(HB.out.cell (zBl w _ hx478_1)).trans hx478_1;replace hx478_2:=(HB.out.cell (zBl w _ hx478_2)).trans hx478_2;have HR478_2:=zMk hi478_2;have HC478_2:=zMk hl478_2;clear hi478_2 hl478_2;replace p478:=eq_true p478;replace q478:=eq_true q478;have p479 : 0 ≤ (a1 : Int):=zDe (by first | (with_reducible assumption) | assumption);have q479 : a1 < (l0_0.length : Int):=zDe (by first | (with_reducible assumption) | assumption);obtain ⟨ad479,A479_2,c479_2,e479,hx479_0,hx479_1,hx479_2,hl479_2,hi479_2⟩:=at_T83 HR0_0.out a1 p479 q479;(try rw [← Nbq9.out] at hx479_0);obtain rfl : ad478 = ad479:=(by injection e479);replace hx479_0:=(HB.out.cell (zBl w _ hx479_0)).trans hx479_0;replace hx479_1:=(HB.out.cell (zBl w _ hx479_1)).trans hx479_1;replace hx479_2:=(HB.out.cell (zBl w _ hx479_2)).trans hx479_2;have HR479_2:=zMk hi479_2;have HC479_2:=zMk hl479_2;clear hi479_2 hl479_2;replace p479:=eq_true p479;replace q479:=eq_true q479;have ea_:=Option.some.inj (hx478_2.symm.trans hx479_2);injection ea_ with ea_ en_ ec_;subst ea_;subst ec_;clear en_) | (go_at_call 113;(with_reducible refine (spec_NextBlank.calls k false ((rd_T83 l0_0 a1).f1) _ _ ((rd_T83 l0_0 a1).f2) t480 _ ?side1 ?side2 A14.out).mono ?_);(case side1=>repeat (first | exact (Kd.C_below HR479_2.out (hs1 HB GE476)) | (with_reducible refine Kd.C_alloc ?_ _) | (with_reducible refine Kd.C_drewN ?_ _) | (with_reducible refine Kd.C_drew ?_)));(case side2=>exact HC479_2.out);rintro e w22 ⟨rfl,hb⟩;have n0_:=zMk (blk_below (g:=gb476) (o:=.cells #[.slice (some ad478) l0_0.length c0_0] 52 (0,0)) (bs BK476) hb);have n1_:=zMk (below_step (hs1 HB GE476) hb);clear BK476;clear HB;have BK476:=n0_;have HB:=n1_;clear n0_ n1_;(try clear hb);(try clear hb2);(try clear hk);(try clear hi)))
     go_ret
     exact ⟨by first | rfl | (simp [errW_none,errW_some] <;> rfl) | (simp [*,errW_none,errW_some] <;> rfl),hs1 HB GE476⟩
    rw [if_neg c13] at H;have c13b0 : decide (a2 < 4) = false:=decide_eq_false c13;clear c13;obtain rfl:=Option.some.inj H;go_wp2_with (first | ((with_reducible refine gate_callee (f:=63) rfl ?_);refine goesL_ (some 14) rfl rfl Try.func63 (by kernel_rfl) rfl #[.int .i64 a1,.int .i64 0,.int .i64 (wrap64 ((l0_0.length : Int) - 1))] rfl (by (try simp only [List.map_toArray,List.map_cons,List.map_nil]);first | done | rfl | (simp only [List.length_drop,List.length_take];rfl)) ?_;(with_reducible refine (spec_l01In.calls a1 0 (wrap64 ((l0_0.length : Int) - 1)) true _ A5.out).mono ?_);rintro e w' ⟨rfl,⟨nd,rfl⟩⟩;refine ⟨_,rfl,?_⟩;have p478 : 0 ≤ (a1 : Int):=zDe (by first | (with_reducible assumption) | assumption);have q478 : a1 < (l0_0.length : Int):=zDe (by first | (with_reducible assumption) | assumption);obtain ⟨ad478,A478_2,c478_2,e478,hx478_0,hx478_1,hx478_2,hl478_2,hi478_2⟩:=at_T83 HR0_0.out a1 p478 q478;(try rw [← Nbq9.out] at hx478_0);cases e478;replace hx478_0:=(HB.out.cell (zBl w _ hx478_0)).trans hx478_0;replace hx478_1:=(HB.out.cell (zBl w _ hx478_1)).trans hx478_1;replace hx478_2:=(HB.out.cell (zBl w _ hx478_2)).trans hx478_2;have HR478_2:=zMk hi478_2;have HC478_2:=zMk hl478_2;clear hi478_2 hl478_2;replace p478:=eq_true p478;replace q478:=eq_true q478))
    go_ret
    exact ⟨by first | rfl | (simp [errW_none,errW_some] <;> rfl) | (simp [*,errW_none,errW_some] <;> rfl),hs1 HB GE476⟩
   rw [if_neg c8] at H;exact absurd H (by simp)
  rw [if_neg c7] at H;exact absurd H (by simp)
 replace c6:=Bool.eq_false_iff.mpr c6;subst c6;have H1 : (some false) = some r:=by rw [if_neg (show ¬ (false = true) by decide)] at H;exact H
 clear H;have H:=H1;clear H1;obtain rfl:=Option.some.inj H;go_wp2_with (first | ((with_reducible refine gate_callee (f:=63) rfl ?_);refine goesL_ (some 14) rfl rfl Try.func63 (by kernel_rfl) rfl #[.int .i64 a1,.int .i64 0,.int .i64 (wrap64 ((l0_0.length : Int) - 1))] rfl (by (try simp only [List.map_toArray,List.map_cons,List.map_nil]);first | done | rfl | (simp only [List.length_drop,List.length_take];rfl)) ?_;(with_reducible refine (spec_l01In.calls a1 0 (wrap64 ((l0_0.length : Int) - 1)) false _ A5.out).mono ?_);rintro e w' ⟨rfl,⟨nd,rfl⟩⟩;refine ⟨_,rfl,?_⟩))
 go_ret
 exact ⟨by first | rfl | (simp [errW_none,errW_some] <;> rfl) | (simp [*,errW_none,errW_some] <;> rfl),hs1 HB GE476⟩
end Go.Proofs.Ytklkhnomnanpoaa.PK
