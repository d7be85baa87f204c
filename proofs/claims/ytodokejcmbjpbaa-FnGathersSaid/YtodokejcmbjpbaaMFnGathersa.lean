/- FnGathers: functions of the translation as Lean functions with what their calls come to, plain lemmas on them, and, at the end, the row. Parts of one proof, merged by a program of this session; each part's own sentence stands at its head. -/
import Derived.Test.YtodokejcmbjpbaaProg
import Derived.Below
import Derived.Deep.Draws
import Derived.Deep.AppendLies
import Derived.Maps.AppendAt
import Derived.OwnWalk
import Derived.Laws.BytesArg
import Derived.Laws.MakeOwn
import Derived.Laws.OwnMore
import Derived.Deep.OwnRows
import Derived.Tactics
import Derived.Lib.ConvBytes
import Derived.Laws.Slices
import Derived.WalkKit
import Derived.KernelRfl
import Derived.RowKit3
import Derived.Deep.LoopGhost
import Derived.Deep.QuietTactic
import Derived.BigQuiet
import Derived.WideLaws
import Derived.Deep.DeepCutAuto
import Derived.Deep.CutBlock
import Derived.Deep.RegionHeld3
import Derived.Laws.Rows
import Derived.Lib.AppendStr
import Derived.ArgAppend
import Derived.Laws.IdiomCopy
import Derived.OrdersHeld
import Derived.Laws.BitsLemmas
import Derived.RowKit
import Derived.Shelf.Sort.Plain
import Derived.Shelf.Slices.In.SortNone2
import Derived.Sort.OwnSortedInts
import Derived.Test.YtodokejcmbjpbaaMFnGatherswa
set_option linter.unusedSimpArgs false
set_option linter.unusedVariables false
namespace Go.Proofs.Ytodokejcmbjpbaa.PK
open Go.RowKit Go.Proofs.YtodokejcmbjpbaaW.PrintWords Go.Proofs.YtodokejcmbjpbaaW.PrintLast Go.Proofs.YtodokejcmbjpbaaW.PrintMore
attribute [local go_sem] max2_int min2_int max_two min_two max_three min_three max_four min_four
def errW : Option Int → Value
 | none=>.nilIface
 | some c=>.iface 0 (.int .i64 c)
theorem errW_none : errW none = .nilIface:=rfl
theorem errW_some (c : Int) : errW (some c) = .iface 0 (.int .i64 c):=rfl
theorem info3 : (Try.prog.info? 3).map (fun i=>(i.zero,i.size,i.bytes)) = some (some (.int .i64 0),1,8):=by kernel_rfl
theorem info5 : (Try.prog.info? 5).map (fun i=>(i.zero,i.size,i.bytes)) = some (some (.int .u8 0),1,1):=by kernel_rfl
theorem info9 : (Try.prog.info? 9).map (fun i=>(i.zero,i.size,i.bytes)) = some (some (.string ⟨#[]⟩),1,16):=by kernel_rfl
theorem info33 : (Try.prog.info? 33).map (fun i=>(i.zero,i.size,i.bytes)) = some (some (.agg #[(.int .i64 0),(.int .i64 0),(.int .i64 0),(.int .i64 0),(.int .i64 0),(.string ⟨#[]⟩)]),6,56):=by kernel_rfl
theorem info36 : (Try.prog.info? 36).map (fun i=>(i.zero,i.size,i.bytes)) = some (some (.agg #[(.int .i64 0),(.int .i64 0),(.int .i64 0),(.int .i64 0),(.int .i64 0),(.int .i64 0),(.int .i64 0),(.string ⟨#[]⟩)]),8,72):=by kernel_rfl
theorem info40 : (Try.prog.info? 40).map (fun i=>(i.zero,i.size,i.bytes)) = some (some (.agg #[(.int .i64 0),(.int .i64 0),(.slice none 0 0)]),3,40):=by kernel_rfl
theorem info45 : (Try.prog.info? 45).map (fun i=>(i.zero,i.size,i.bytes)) = some (some (.agg #[(.int .i64 0),(.int .i64 0),(.int .i64 0),(.int .i64 0)]),4,32):=by kernel_rfl
-- the values' own types
structure S45 where
 f0 : Int
 f1 : Int
 f2 : Int
 f3 : Int
def z45 : S45:=⟨(0 : Int),(0 : Int),(0 : Int),(0 : Int)⟩
def k45 : Kd S45:=Kd.iso (Kd.pair (Kd.int .i64) (Kd.pair (Kd.int .i64) (Kd.pair (Kd.int .i64) (Kd.int .i64)))) (fun x : S45=>(x.f0,x.f1,x.f2,x.f3))
theorem k45_open {w : World} {x : S45} {cs : List Value} (h : k45.K w x cs) : cs = [.int .i64 x.f0,.int .i64 x.f1,.int .i64 x.f2,.int .i64 x.f3]:=by
 obtain ⟨_,_,rfl,rfl,⟨_,_,rfl,rfl,⟨_,_,rfl,rfl,rfl⟩⟩⟩:=h;exact rfl
theorem k45_openM {w : World} {base : Nat} {ok : Nat → Prop} {x : S45} {cs : List Value} (h : k45.M w base ok x cs) : cs = [.int .i64 x.f0,.int .i64 x.f1,.int .i64 x.f2,.int .i64 x.f3]:=by
 obtain ⟨_,_,rfl,rfl,⟨_,_,rfl,rfl,⟨_,_,rfl,rfl,rfl⟩⟩⟩:=h;exact rfl
theorem k45_mk (w : World) (x : S45)  : k45.K w x [.int .i64 x.f0,.int .i64 x.f1,.int .i64 x.f2,.int .i64 x.f3]:=⟨[.int .i64 x.f0],[.int .i64 x.f1,.int .i64 x.f2,.int .i64 x.f3],rfl,rfl,⟨[.int .i64 x.f1],[.int .i64 x.f2,.int .i64 x.f3],rfl,rfl,⟨[.int .i64 x.f2],[.int .i64 x.f3],rfl,rfl,rfl⟩⟩⟩
theorem k45_mkM (w : World) (base : Nat) (ok : Nat → Prop) (x : S45)  : k45.M w base ok x [.int .i64 x.f0,.int .i64 x.f1,.int .i64 x.f2,.int .i64 x.f3]:=⟨[.int .i64 x.f0],[.int .i64 x.f1,.int .i64 x.f2,.int .i64 x.f3],rfl,rfl,⟨[.int .i64 x.f1],[.int .i64 x.f2,.int .i64 x.f3],rfl,rfl,⟨[.int .i64 x.f2],[.int .i64 x.f3],rfl,rfl,rfl⟩⟩⟩
def rd_T45 (xs : List S45) (i : Int) : S45:=xs.getD i.toNat z45
theorem at_T45 {w : World} {A : Option Addr} {n : Nat} {xs : List S45} (h : Kd.C k45 w A n xs) (i : Int) (h0 : 0 ≤ i) (h1 : i < n) : ∃ ad ,A = some ad ∧ w.cell? (ad.add (i.toNat * 4)) = some (.int .i64 (rd_T45 xs i).f0) ∧ w.cell? ⟨(ad.add (i.toNat * 4)).block,(ad.add (i.toNat * 4)).off + 1,none⟩ = some (.int .i64 (rd_T45 xs i).f1) ∧ w.cell? ⟨(ad.add (i.toNat * 4)).block,(ad.add (i.toNat * 4)).off + 2,none⟩ = some (.int .i64 (rd_T45 xs i).f2) ∧ w.cell? ⟨(ad.add (i.toNat * 4)).block,(ad.add (i.toNat * 4)).off + 3,none⟩ = some (.int .i64 (rd_T45 xs i).f3):=by
 obtain ⟨ad,c,e,_,hK,hc0⟩:=Kd.C_get h z45 i h0 h1;have hc : ∀ j u,c[j]? = some u → w.cell? (ad.add (i.toNat * 4 + j)) = some u:=hc0;obtain rfl:=k45_open hK;exact ⟨ad,e,hc 0 _ rfl,by rw [← add_field _ _ 1 (by omega)];exact hc 1 _ rfl,by rw [← add_field _ _ 2 (by omega)];exact hc 2 _ rfl,by rw [← add_field _ _ 3 (by omega)];exact hc 3 _ rfl⟩
structure S33 where
 f0 : Int
 f1 : Int
 f2 : Int
 f3 : Int
 f4 : Int
 f5 : ByteArray
def z33 : S33:=⟨(0 : Int),(0 : Int),(0 : Int),(0 : Int),(0 : Int),(⟨#[]⟩ : ByteArray)⟩
def k33 : Kd S33:=Kd.iso (Kd.pair (Kd.int .i64) (Kd.pair (Kd.int .i64) (Kd.pair (Kd.int .i64) (Kd.pair (Kd.int .i64) (Kd.pair (Kd.int .i64) Kd.string))))) (fun x : S33=>(x.f0,x.f1,x.f2,x.f3,x.f4,x.f5))
theorem k33_open {w : World} {x : S33} {cs : List Value} (h : k33.K w x cs) : cs = [.int .i64 x.f0,.int .i64 x.f1,.int .i64 x.f2,.int .i64 x.f3,.int .i64 x.f4,.string x.f5]:=by
 obtain ⟨_,_,rfl,rfl,⟨_,_,rfl,rfl,⟨_,_,rfl,rfl,⟨_,_,rfl,rfl,⟨_,_,rfl,rfl,rfl⟩⟩⟩⟩⟩:=h;exact rfl
theorem k33_openM {w : World} {base : Nat} {ok : Nat → Prop} {x : S33} {cs : List Value} (h : k33.M w base ok x cs) : cs = [.int .i64 x.f0,.int .i64 x.f1,.int .i64 x.f2,.int .i64 x.f3,.int .i64 x.f4,.string x.f5]:=by
 obtain ⟨_,_,rfl,rfl,⟨_,_,rfl,rfl,⟨_,_,rfl,rfl,⟨_,_,rfl,rfl,⟨_,_,rfl,rfl,rfl⟩⟩⟩⟩⟩:=h;exact rfl
theorem k33_mk (w : World) (x : S33)  : k33.K w x [.int .i64 x.f0,.int .i64 x.f1,.int .i64 x.f2,.int .i64 x.f3,.int .i64 x.f4,.string x.f5]:=⟨[.int .i64 x.f0],[.int .i64 x.f1,.int .i64 x.f2,.int .i64 x.f3,.int .i64 x.f4,.string x.f5],rfl,rfl,⟨[.int .i64 x.f1],[.int .i64 x.f2,.int .i64 x.f3,.int .i64 x.f4,.string x.f5],rfl,rfl,⟨[.int .i64 x.f2],[.int .i64 x.f3,.int .i64 x.f4,.string x.f5],rfl,rfl,⟨[.int .i64 x.f3],[.int .i64 x.f4,.string x.f5],rfl,rfl,⟨[.int .i64 x.f4],[.string x.f5],rfl,rfl,rfl⟩⟩⟩⟩⟩
theorem k33_mkM (w : World) (base : Nat) (ok : Nat → Prop) (x : S33)  : k33.M w base ok x [.int .i64 x.f0,.int .i64 x.f1,.int .i64 x.f2,.int .i64 x.f3,.int .i64 x.f4,.string x.f5]:=⟨[.int .i64 x.f0],[.int .i64 x.f1,.int .i64 x.f2,.int .i64 x.f3,.int .i64 x.f4,.string x.f5],rfl,rfl,⟨[.int .i64 x.f1],[.int .i64 x.f2,.int .i64 x.f3,.int .i64 x.f4,.string x.f5],rfl,rfl,⟨[.int .i64 x.f2],[.int .i64 x.f3,.int .i64 x.f4,.string x.f5],rfl,rfl,⟨[.int .i64 x.f3],[.int .i64 x.f4,.string x.f5],rfl,rfl,⟨[.int .i64 x.f4],[.string x.f5],rfl,rfl,rfl⟩⟩⟩⟩⟩
def rd_T33 (xs : List S33) (i : Int) : S33:=xs.getD i.toNat z33
theorem at_T33 {w : World} {A : Option Addr} {n : Nat} {xs : List S33} (h : Kd.C k33 w A n xs) (i : Int) (h0 : 0 ≤ i) (h1 : i < n) : ∃ ad ,A = some ad ∧ w.cell? (ad.add (i.toNat * 6)) = some (.int .i64 (rd_T33 xs i).f0) ∧ w.cell? ⟨(ad.add (i.toNat * 6)).block,(ad.add (i.toNat * 6)).off + 1,none⟩ = some (.int .i64 (rd_T33 xs i).f1) ∧ w.cell? ⟨(ad.add (i.toNat * 6)).block,(ad.add (i.toNat * 6)).off + 2,none⟩ = some (.int .i64 (rd_T33 xs i).f2) ∧ w.cell? ⟨(ad.add (i.toNat * 6)).block,(ad.add (i.toNat * 6)).off + 3,none⟩ = some (.int .i64 (rd_T33 xs i).f3) ∧ w.cell? ⟨(ad.add (i.toNat * 6)).block,(ad.add (i.toNat * 6)).off + 4,none⟩ = some (.int .i64 (rd_T33 xs i).f4) ∧ w.cell? ⟨(ad.add (i.toNat * 6)).block,(ad.add (i.toNat * 6)).off + 5,none⟩ = some (.string (rd_T33 xs i).f5):=by
 obtain ⟨ad,c,e,_,hK,hc0⟩:=Kd.C_get h z33 i h0 h1;have hc : ∀ j u,c[j]? = some u → w.cell? (ad.add (i.toNat * 6 + j)) = some u:=hc0;obtain rfl:=k33_open hK;exact ⟨ad,e,hc 0 _ rfl,by rw [← add_field _ _ 1 (by omega)];exact hc 1 _ rfl,by rw [← add_field _ _ 2 (by omega)];exact hc 2 _ rfl,by rw [← add_field _ _ 3 (by omega)];exact hc 3 _ rfl,by rw [← add_field _ _ 4 (by omega)];exact hc 4 _ rfl,by rw [← add_field _ _ 5 (by omega)];exact hc 5 _ rfl⟩
structure S36 where
 f0 : Int
 f1 : Int
 f2 : S33
def z36 : S36:=⟨(0 : Int),(0 : Int),z33⟩
def k36 : Kd S36:=Kd.iso (Kd.pair (Kd.int .i64) (Kd.pair (Kd.int .i64) k33)) (fun x : S36=>(x.f0,x.f1,x.f2))
theorem k36_open {w : World} {x : S36} {cs : List Value} (h : k36.K w x cs) : cs = [.int .i64 x.f0,.int .i64 x.f1,.int .i64 x.f2.f0,.int .i64 x.f2.f1,.int .i64 x.f2.f2,.int .i64 x.f2.f3,.int .i64 x.f2.f4,.string x.f2.f5]:=by
 obtain ⟨_,_,rfl,rfl,⟨_,_,rfl,rfl,s2⟩⟩:=h;obtain rfl:=k33_open s2;exact rfl
theorem k36_openM {w : World} {base : Nat} {ok : Nat → Prop} {x : S36} {cs : List Value} (h : k36.M w base ok x cs) : cs = [.int .i64 x.f0,.int .i64 x.f1,.int .i64 x.f2.f0,.int .i64 x.f2.f1,.int .i64 x.f2.f2,.int .i64 x.f2.f3,.int .i64 x.f2.f4,.string x.f2.f5]:=by
 obtain ⟨_,_,rfl,rfl,⟨_,_,rfl,rfl,s2⟩⟩:=h;obtain rfl:=k33_openM s2;exact rfl
theorem k36_mk (w : World) (x : S36)  : k36.K w x [.int .i64 x.f0,.int .i64 x.f1,.int .i64 x.f2.f0,.int .i64 x.f2.f1,.int .i64 x.f2.f2,.int .i64 x.f2.f3,.int .i64 x.f2.f4,.string x.f2.f5]:=⟨[.int .i64 x.f0],[.int .i64 x.f1,.int .i64 x.f2.f0,.int .i64 x.f2.f1,.int .i64 x.f2.f2,.int .i64 x.f2.f3,.int .i64 x.f2.f4,.string x.f2.f5],rfl,rfl,⟨[.int .i64 x.f1],[.int .i64 x.f2.f0,.int .i64 x.f2.f1,.int .i64 x.f2.f2,.int .i64 x.f2.f3,.int .i64 x.f2.f4,.string x.f2.f5],rfl,rfl,(k33_mk w x.f2 )⟩⟩
theorem k36_mkM (w : World) (base : Nat) (ok : Nat → Prop) (x : S36)  : k36.M w base ok x [.int .i64 x.f0,.int .i64 x.f1,.int .i64 x.f2.f0,.int .i64 x.f2.f1,.int .i64 x.f2.f2,.int .i64 x.f2.f3,.int .i64 x.f2.f4,.string x.f2.f5]:=⟨[.int .i64 x.f0],[.int .i64 x.f1,.int .i64 x.f2.f0,.int .i64 x.f2.f1,.int .i64 x.f2.f2,.int .i64 x.f2.f3,.int .i64 x.f2.f4,.string x.f2.f5],rfl,rfl,⟨[.int .i64 x.f1],[.int .i64 x.f2.f0,.int .i64 x.f2.f1,.int .i64 x.f2.f2,.int .i64 x.f2.f3,.int .i64 x.f2.f4,.string x.f2.f5],rfl,rfl,(k33_mkM w base ok x.f2 )⟩⟩
def rd_T36 (xs : List S36) (i : Int) : S36:=xs.getD i.toNat z36
theorem at_T36 {w : World} {A : Option Addr} {n : Nat} {xs : List S36} (h : Kd.C k36 w A n xs) (i : Int) (h0 : 0 ≤ i) (h1 : i < n) : ∃ ad ,A = some ad ∧ w.cell? (ad.add (i.toNat * 8)) = some (.int .i64 (rd_T36 xs i).f0) ∧ w.cell? ⟨(ad.add (i.toNat * 8)).block,(ad.add (i.toNat * 8)).off + 1,none⟩ = some (.int .i64 (rd_T36 xs i).f1) ∧ w.cell? ⟨(ad.add (i.toNat * 8)).block,(ad.add (i.toNat * 8)).off + 2,none⟩ = some (.int .i64 (rd_T36 xs i).f2.f0) ∧ w.cell? ⟨(ad.add (i.toNat * 8)).block,(ad.add (i.toNat * 8)).off + 3,none⟩ = some (.int .i64 (rd_T36 xs i).f2.f1) ∧ w.cell? ⟨(ad.add (i.toNat * 8)).block,(ad.add (i.toNat * 8)).off + 4,none⟩ = some (.int .i64 (rd_T36 xs i).f2.f2) ∧ w.cell? ⟨(ad.add (i.toNat * 8)).block,(ad.add (i.toNat * 8)).off + 5,none⟩ = some (.int .i64 (rd_T36 xs i).f2.f3) ∧ w.cell? ⟨(ad.add (i.toNat * 8)).block,(ad.add (i.toNat * 8)).off + 6,none⟩ = some (.int .i64 (rd_T36 xs i).f2.f4) ∧ w.cell? ⟨(ad.add (i.toNat * 8)).block,(ad.add (i.toNat * 8)).off + 7,none⟩ = some (.string (rd_T36 xs i).f2.f5):=by
 obtain ⟨ad,c,e,_,hK,hc0⟩:=Kd.C_get h z36 i h0 h1;have hc : ∀ j u,c[j]? = some u → w.cell? (ad.add (i.toNat * 8 + j)) = some u:=hc0;obtain rfl:=k36_open hK;exact ⟨ad,e,hc 0 _ rfl,by rw [← add_field _ _ 1 (by omega)];exact hc 1 _ rfl,by rw [← add_field _ _ 2 (by omega)];exact hc 2 _ rfl,by rw [← add_field _ _ 3 (by omega)];exact hc 3 _ rfl,by rw [← add_field _ _ 4 (by omega)];exact hc 4 _ rfl,by rw [← add_field _ _ 5 (by omega)];exact hc 5 _ rfl,by rw [← add_field _ _ 6 (by omega)];exact hc 6 _ rfl,by rw [← add_field _ _ 7 (by omega)];exact hc 7 _ rfl⟩
def rd_L6 (xs : List (List S45)) (i : Int) : (List S45):=xs.getD i.toNat ([] : List S45)
theorem at_L6 {w : World} {A : Option Addr} {n : Nat} {xs : List (List S45)} (h : Kd.C (Kd.slice 45 k45) w A n xs) (i : Int) (h0 : 0 ≤ i) (h1 : i < n) : ∃ ad A0 c0,A = some ad ∧ w.cell? (ad.add i.toNat) = some (.slice A0 (rd_L6 xs i).length c0) ∧ (rd_L6 xs i).length ≤ c0 ∧ k45.C w A0 (rd_L6 xs i).length (rd_L6 xs i):=by
 obtain ⟨ad,c,e,_,hK,hc0⟩:=Kd.C_get h ([] : List S45) i h0 h1;have hc : ∀ j u,c[j]? = some u → w.cell? (ad.add (i.toNat * 1 + j)) = some u:=hc0;obtain ⟨A0,c0,rfl,l0,g0⟩:=hK;exact ⟨ad,A0,c0,e,by have hq:=hc 0 _ rfl;rwa [Nat.mul_one,Nat.add_zero] at hq,l0,g0⟩
structure S40 where
 f0 : Int
 f1 : Int
 f2 : (List S45)
def z40 : S40:=⟨(0 : Int),(0 : Int),([] : List S45)⟩
def k40 : Kd S40:=Kd.iso (Kd.pair (Kd.int .i64) (Kd.pair (Kd.int .i64) (Kd.slice 45 k45))) (fun x : S40=>(x.f0,x.f1,x.f2))
theorem k40_open {w : World} {x : S40} {cs : List Value} (h : k40.K w x cs) : ∃ A2 c2,cs = [.int .i64 x.f0,.int .i64 x.f1,.slice A2 x.f2.length c2] ∧ x.f2.length ≤ c2 ∧ k45.C w A2 x.f2.length x.f2:=by
 obtain ⟨_,_,rfl,rfl,⟨_,_,rfl,rfl,⟨A2,c2,rfl,l2,g2⟩⟩⟩:=h;exact ⟨A2,c2,rfl,l2,g2⟩
theorem k40_openM {w : World} {base : Nat} {ok : Nat → Prop} {x : S40} {cs : List Value} (h : k40.M w base ok x cs) : ∃ v2,cs = [.int .i64 x.f0,.int .i64 x.f1,v2] ∧ k45.R 45 w base ok v2 x.f2:=by
 obtain ⟨_,_,rfl,rfl,⟨_,_,rfl,rfl,⟨v2,rfl,g2⟩⟩⟩:=h;exact ⟨v2,rfl,g2⟩
theorem k40_mk (w : World) (x : S40) {A2 : Option Addr} {c2 : Nat} (l2 : x.f2.length ≤ c2) (g2 : k45.C w A2 x.f2.length x.f2) : k40.K w x [.int .i64 x.f0,.int .i64 x.f1,.slice A2 x.f2.length c2]:=⟨[.int .i64 x.f0],[.int .i64 x.f1,.slice A2 x.f2.length c2],rfl,rfl,⟨[.int .i64 x.f1],[.slice A2 x.f2.length c2],rfl,rfl,⟨A2,c2,rfl,l2,g2⟩⟩⟩
theorem k40_mkM (w : World) (base : Nat) (ok : Nat → Prop) (x : S40) {v2 : Value} (g2 : k45.R 45 w base ok v2 x.f2) : k40.M w base ok x [.int .i64 x.f0,.int .i64 x.f1,v2]:=⟨[.int .i64 x.f0],[.int .i64 x.f1,v2],rfl,rfl,⟨[.int .i64 x.f1],[v2],rfl,rfl,⟨v2,rfl,g2⟩⟩⟩
def rd_T40 (xs : List S40) (i : Int) : S40:=xs.getD i.toNat z40
theorem at_T40 {w : World} {A : Option Addr} {n : Nat} {xs : List S40} (h : Kd.C k40 w A n xs) (i : Int) (h0 : 0 ≤ i) (h1 : i < n) : ∃ ad A2 c2,A = some ad ∧ w.cell? (ad.add (i.toNat * 3)) = some (.int .i64 (rd_T40 xs i).f0) ∧ w.cell? ⟨(ad.add (i.toNat * 3)).block,(ad.add (i.toNat * 3)).off + 1,none⟩ = some (.int .i64 (rd_T40 xs i).f1) ∧ w.cell? ⟨(ad.add (i.toNat * 3)).block,(ad.add (i.toNat * 3)).off + 2,none⟩ = some (.slice A2 (rd_T40 xs i).f2.length c2) ∧ (rd_T40 xs i).f2.length ≤ c2 ∧ k45.C w A2 (rd_T40 xs i).f2.length (rd_T40 xs i).f2:=by
 obtain ⟨ad,c,e,_,hK,hc0⟩:=Kd.C_get h z40 i h0 h1;have hc : ∀ j u,c[j]? = some u → w.cell? (ad.add (i.toNat * 3 + j)) = some u:=hc0;obtain ⟨A2,c2,rfl,l2,g2⟩:=k40_open hK;exact ⟨ad,A2,c2,e,hc 0 _ rfl,by rw [← add_field _ _ 1 (by omega)];exact hc 1 _ rfl,by rw [← add_field _ _ 2 (by omega)];exact hc 2 _ rfl,l2,g2⟩
structure S71 where
 f0 : Int
 f1 : Int
 f2 : Int
 f3 : Int
 f4 : Int
 f5 : ByteArray
def z71 : S71:=⟨(0 : Int),(0 : Int),(0 : Int),(0 : Int),(0 : Int),(⟨#[]⟩ : ByteArray)⟩
def k71 : Kd S71:=Kd.iso (Kd.pair (Kd.int .i64) (Kd.pair (Kd.int .i64) (Kd.pair (Kd.int .i64) (Kd.pair (Kd.int .i64) (Kd.pair (Kd.int .i64) Kd.string))))) (fun x : S71=>(x.f0,x.f1,x.f2,x.f3,x.f4,x.f5))
theorem k71_open {w : World} {x : S71} {cs : List Value} (h : k71.K w x cs) : cs = [.int .i64 x.f0,.int .i64 x.f1,.int .i64 x.f2,.int .i64 x.f3,.int .i64 x.f4,.string x.f5]:=by
 obtain ⟨_,_,rfl,rfl,⟨_,_,rfl,rfl,⟨_,_,rfl,rfl,⟨_,_,rfl,rfl,⟨_,_,rfl,rfl,rfl⟩⟩⟩⟩⟩:=h;exact rfl
theorem k71_openM {w : World} {base : Nat} {ok : Nat → Prop} {x : S71} {cs : List Value} (h : k71.M w base ok x cs) : cs = [.int .i64 x.f0,.int .i64 x.f1,.int .i64 x.f2,.int .i64 x.f3,.int .i64 x.f4,.string x.f5]:=by
 obtain ⟨_,_,rfl,rfl,⟨_,_,rfl,rfl,⟨_,_,rfl,rfl,⟨_,_,rfl,rfl,⟨_,_,rfl,rfl,rfl⟩⟩⟩⟩⟩:=h;exact rfl
theorem k71_mk (w : World) (x : S71)  : k71.K w x [.int .i64 x.f0,.int .i64 x.f1,.int .i64 x.f2,.int .i64 x.f3,.int .i64 x.f4,.string x.f5]:=⟨[.int .i64 x.f0],[.int .i64 x.f1,.int .i64 x.f2,.int .i64 x.f3,.int .i64 x.f4,.string x.f5],rfl,rfl,⟨[.int .i64 x.f1],[.int .i64 x.f2,.int .i64 x.f3,.int .i64 x.f4,.string x.f5],rfl,rfl,⟨[.int .i64 x.f2],[.int .i64 x.f3,.int .i64 x.f4,.string x.f5],rfl,rfl,⟨[.int .i64 x.f3],[.int .i64 x.f4,.string x.f5],rfl,rfl,⟨[.int .i64 x.f4],[.string x.f5],rfl,rfl,rfl⟩⟩⟩⟩⟩
theorem k71_mkM (w : World) (base : Nat) (ok : Nat → Prop) (x : S71)  : k71.M w base ok x [.int .i64 x.f0,.int .i64 x.f1,.int .i64 x.f2,.int .i64 x.f3,.int .i64 x.f4,.string x.f5]:=⟨[.int .i64 x.f0],[.int .i64 x.f1,.int .i64 x.f2,.int .i64 x.f3,.int .i64 x.f4,.string x.f5],rfl,rfl,⟨[.int .i64 x.f1],[.int .i64 x.f2,.int .i64 x.f3,.int .i64 x.f4,.string x.f5],rfl,rfl,⟨[.int .i64 x.f2],[.int .i64 x.f3,.int .i64 x.f4,.string x.f5],rfl,rfl,⟨[.int .i64 x.f3],[.int .i64 x.f4,.string x.f5],rfl,rfl,⟨[.int .i64 x.f4],[.string x.f5],rfl,rfl,rfl⟩⟩⟩⟩⟩
def rd_T71 (xs : List S71) (i : Int) : S71:=xs.getD i.toNat z71
theorem at_T71 {w : World} {A : Option Addr} {n : Nat} {xs : List S71} (h : Kd.C k71 w A n xs) (i : Int) (h0 : 0 ≤ i) (h1 : i < n) : ∃ ad ,A = some ad ∧ w.cell? (ad.add (i.toNat * 6)) = some (.int .i64 (rd_T71 xs i).f0) ∧ w.cell? ⟨(ad.add (i.toNat * 6)).block,(ad.add (i.toNat * 6)).off + 1,none⟩ = some (.int .i64 (rd_T71 xs i).f1) ∧ w.cell? ⟨(ad.add (i.toNat * 6)).block,(ad.add (i.toNat * 6)).off + 2,none⟩ = some (.int .i64 (rd_T71 xs i).f2) ∧ w.cell? ⟨(ad.add (i.toNat * 6)).block,(ad.add (i.toNat * 6)).off + 3,none⟩ = some (.int .i64 (rd_T71 xs i).f3) ∧ w.cell? ⟨(ad.add (i.toNat * 6)).block,(ad.add (i.toNat * 6)).off + 4,none⟩ = some (.int .i64 (rd_T71 xs i).f4) ∧ w.cell? ⟨(ad.add (i.toNat * 6)).block,(ad.add (i.toNat * 6)).off + 5,none⟩ = some (.string (rd_T71 xs i).f5):=by
 obtain ⟨ad,c,e,_,hK,hc0⟩:=Kd.C_get h z71 i h0 h1;have hc : ∀ j u,c[j]? = some u → w.cell? (ad.add (i.toNat * 6 + j)) = some u:=hc0;obtain rfl:=k71_open hK;exact ⟨ad,e,hc 0 _ rfl,by rw [← add_field _ _ 1 (by omega)];exact hc 1 _ rfl,by rw [← add_field _ _ 2 (by omega)];exact hc 2 _ rfl,by rw [← add_field _ _ 3 (by omega)];exact hc 3 _ rfl,by rw [← add_field _ _ 4 (by omega)];exact hc 4 _ rfl,by rw [← add_field _ _ 5 (by omega)];exact hc 5 _ rfl⟩
structure S73 where
 f0 : Int
 f1 : Int
 f2 : S71
def z73 : S73:=⟨(0 : Int),(0 : Int),z71⟩
def k73 : Kd S73:=Kd.iso (Kd.pair (Kd.int .i64) (Kd.pair (Kd.int .i64) k71)) (fun x : S73=>(x.f0,x.f1,x.f2))
theorem k73_open {w : World} {x : S73} {cs : List Value} (h : k73.K w x cs) : cs = [.int .i64 x.f0,.int .i64 x.f1,.int .i64 x.f2.f0,.int .i64 x.f2.f1,.int .i64 x.f2.f2,.int .i64 x.f2.f3,.int .i64 x.f2.f4,.string x.f2.f5]:=by
 obtain ⟨_,_,rfl,rfl,⟨_,_,rfl,rfl,s2⟩⟩:=h;obtain rfl:=k71_open s2;exact rfl
theorem k73_openM {w : World} {base : Nat} {ok : Nat → Prop} {x : S73} {cs : List Value} (h : k73.M w base ok x cs) : cs = [.int .i64 x.f0,.int .i64 x.f1,.int .i64 x.f2.f0,.int .i64 x.f2.f1,.int .i64 x.f2.f2,.int .i64 x.f2.f3,.int .i64 x.f2.f4,.string x.f2.f5]:=by
 obtain ⟨_,_,rfl,rfl,⟨_,_,rfl,rfl,s2⟩⟩:=h;obtain rfl:=k71_openM s2;exact rfl
theorem k73_mk (w : World) (x : S73)  : k73.K w x [.int .i64 x.f0,.int .i64 x.f1,.int .i64 x.f2.f0,.int .i64 x.f2.f1,.int .i64 x.f2.f2,.int .i64 x.f2.f3,.int .i64 x.f2.f4,.string x.f2.f5]:=⟨[.int .i64 x.f0],[.int .i64 x.f1,.int .i64 x.f2.f0,.int .i64 x.f2.f1,.int .i64 x.f2.f2,.int .i64 x.f2.f3,.int .i64 x.f2.f4,.string x.f2.f5],rfl,rfl,⟨[.int .i64 x.f1],[.int .i64 x.f2.f0,.int .i64 x.f2.f1,.int .i64 x.f2.f2,.int .i64 x.f2.f3,.int .i64 x.f2.f4,.string x.f2.f5],rfl,rfl,(k71_mk w x.f2 )⟩⟩
theorem k73_mkM (w : World) (base : Nat) (ok : Nat → Prop) (x : S73)  : k73.M w base ok x [.int .i64 x.f0,.int .i64 x.f1,.int .i64 x.f2.f0,.int .i64 x.f2.f1,.int .i64 x.f2.f2,.int .i64 x.f2.f3,.int .i64 x.f2.f4,.string x.f2.f5]:=⟨[.int .i64 x.f0],[.int .i64 x.f1,.int .i64 x.f2.f0,.int .i64 x.f2.f1,.int .i64 x.f2.f2,.int .i64 x.f2.f3,.int .i64 x.f2.f4,.string x.f2.f5],rfl,rfl,⟨[.int .i64 x.f1],[.int .i64 x.f2.f0,.int .i64 x.f2.f1,.int .i64 x.f2.f2,.int .i64 x.f2.f3,.int .i64 x.f2.f4,.string x.f2.f5],rfl,rfl,(k71_mkM w base ok x.f2 )⟩⟩
def rd_T73 (xs : List S73) (i : Int) : S73:=xs.getD i.toNat z73
theorem at_T73 {w : World} {A : Option Addr} {n : Nat} {xs : List S73} (h : Kd.C k73 w A n xs) (i : Int) (h0 : 0 ≤ i) (h1 : i < n) : ∃ ad ,A = some ad ∧ w.cell? (ad.add (i.toNat * 8)) = some (.int .i64 (rd_T73 xs i).f0) ∧ w.cell? ⟨(ad.add (i.toNat * 8)).block,(ad.add (i.toNat * 8)).off + 1,none⟩ = some (.int .i64 (rd_T73 xs i).f1) ∧ w.cell? ⟨(ad.add (i.toNat * 8)).block,(ad.add (i.toNat * 8)).off + 2,none⟩ = some (.int .i64 (rd_T73 xs i).f2.f0) ∧ w.cell? ⟨(ad.add (i.toNat * 8)).block,(ad.add (i.toNat * 8)).off + 3,none⟩ = some (.int .i64 (rd_T73 xs i).f2.f1) ∧ w.cell? ⟨(ad.add (i.toNat * 8)).block,(ad.add (i.toNat * 8)).off + 4,none⟩ = some (.int .i64 (rd_T73 xs i).f2.f2) ∧ w.cell? ⟨(ad.add (i.toNat * 8)).block,(ad.add (i.toNat * 8)).off + 5,none⟩ = some (.int .i64 (rd_T73 xs i).f2.f3) ∧ w.cell? ⟨(ad.add (i.toNat * 8)).block,(ad.add (i.toNat * 8)).off + 6,none⟩ = some (.int .i64 (rd_T73 xs i).f2.f4) ∧ w.cell? ⟨(ad.add (i.toNat * 8)).block,(ad.add (i.toNat * 8)).off + 7,none⟩ = some (.string (rd_T73 xs i).f2.f5):=by
 obtain ⟨ad,c,e,_,hK,hc0⟩:=Kd.C_get h z73 i h0 h1;have hc : ∀ j u,c[j]? = some u → w.cell? (ad.add (i.toNat * 8 + j)) = some u:=hc0;obtain rfl:=k73_open hK;exact ⟨ad,e,hc 0 _ rfl,by rw [← add_field _ _ 1 (by omega)];exact hc 1 _ rfl,by rw [← add_field _ _ 2 (by omega)];exact hc 2 _ rfl,by rw [← add_field _ _ 3 (by omega)];exact hc 3 _ rfl,by rw [← add_field _ _ 4 (by omega)];exact hc 4 _ rfl,by rw [← add_field _ _ 5 (by omega)];exact hc 5 _ rfl,by rw [← add_field _ _ 6 (by omega)];exact hc 6 _ rfl,by rw [← add_field _ _ 7 (by omega)];exact hc 7 _ rfl⟩
def laws_big.f (l0 : List Int) : Option (Bool):=some (decide ((l0.length : Int) > 1048576))
set_option maxHeartbeats 8000000 in
set_option maxRecDepth 100000 in
theorem laws_big.calls (A0 : Option Addr) (c0 : Nat) (l0 : List Int) (r : Bool) (w : World) (hr0 : Kd.C (Kd.int .u8) w A0 l0.length l0) (hc0 : l0.length ≤ c0) (h : laws_big.f l0 = some r) :
  Calls Try.prog 7 #[.slice A0 l0.length c0] w fun e w'=>e = .returned (.bool r) ∧ Drawn0 w w':=by
 have HR0:=zMk hr0;have HC0:=zMk hc0;clear hr0 hc0;have H : (some (decide ((l0.length : Int) > 1048576))) = some r:=h;clear h;obtain rfl:=Option.some.inj H
 go_enter Try.func7,Try.ntmps7
 go_wp2
 go_ret
 exact ⟨by first | rfl | (simp;done) | (simp [*];done),by repeat (first | exact Drawn0.refl _ | apply Drawn0.step)⟩
def impl_hasInt.l0 : Nat → Int → List Int → Int → Int → Option (Bool)
 | 0,_,_,_,_=>none
 | k + 1,x1,x7,x8,x9=>if x9 < x8 then (if 0 ≤ x9 then (if x9 < (x7.length : Int) then (if (rd x7 x9) = x1 then (some true) else (impl_hasInt.l0 k x1 x7 x8 (wrap64 (x9 + 1)))) else (none)) else (none)) else (some false)
def impl_hasInt.f (k : Nat) (l0 : List Int) (a1 : Int) : Option (Bool):=impl_hasInt.l0 k a1 l0 (l0.length : Int) 0
theorem impl_hasInt.mono_l : ∀ k,(∀ y0 y1 y2 y3,LeO (impl_hasInt.l0 k y0 y1 y2 y3) (impl_hasInt.l0 (k + 1) y0 y1 y2 y3))
 | 0=>fun _ _ _ _ r h=>by simp [impl_hasInt.l0] at h
 | k + 1=>by
  have ih0:=impl_hasInt.mono_l k;intro y0 y1 y2 y3;unfold impl_hasInt.l0
  repeat' first
  | (with_reducible exact ih0 _ _ _ _)
  | (with_reducible exact LeO.refl _)
  | (with_reducible exact LeO.none _)
  | (with_reducible refine LeO.ite ?_ ?_)
  | (with_reducible refine LeO.bind ?_ (fun _=>?_))
  | exact ih0 _ _ _ _
  | exact LeO.none _
  | refine LeO.ite ?_ ?_
  | refine LeO.bind ?_ (fun _=>?_)
theorem impl_hasInt.mono : ∀ a0 a1 k,LeO (impl_hasInt.f k a0 a1) (impl_hasInt.f (k + 1) a0 a1):=by
 intro a0 a1 k;have ih0:=impl_hasInt.mono_l k;unfold impl_hasInt.f
 repeat' first
   | (with_reducible exact ih0 _ _ _ _)
   | (with_reducible exact LeO.refl _)
   | (with_reducible exact LeO.none _)
   | (with_reducible refine LeO.ite ?_ ?_)
   | (with_reducible refine LeO.bind ?_ (fun _=>?_))
   | exact ih0 _ _ _ _
   | exact LeO.none _
   | refine LeO.ite ?_ ?_
   | refine LeO.bind ?_ (fun _=>?_)
set_option maxHeartbeats 8000000 in
set_option maxRecDepth 100000 in
theorem impl_hasInt.calls (k : Nat) (A0 : Option Addr) (c0 : Nat) (l0 : List Int) (a1 : Int) (r : Bool) (w : World) (hr0 : Kd.C (Kd.int .i64) w A0 l0.length l0) (hc0 : l0.length ≤ c0) (h : impl_hasInt.f k l0 a1 = some r) :
  Calls Try.prog 35 #[.slice A0 l0.length c0,.int .i64 a1] w fun e w'=>e = .returned (.bool r) ∧ Drawn0 w w':=by
 have HR0:=zMk hr0;have HC0:=zMk hc0;clear hr0 hc0;have H : (impl_hasInt.l0 k a1 l0 (l0.length : Int) 0) = some r:=h;clear h;have H':=zMk H;clear H
 go_enter Try.func35,Try.ntmps35
 go_wp2
 go_loopg [9] k (fun kq v9 w'=>∃ (x9_1 : Int),v9 = .int .i64 x9_1 ∧ Aside0 (impl_hasInt.l0 kq a1 l0 (l0.length : Int) x9_1 = some r) ∧ Aside0 (kq ≤ k) ∧ Drawn0 w w');case atStart=>exact ⟨(0),(by first | rfl | (simp;done) | (simp [*];done)),H',⟨Nat.le_refl _⟩,by repeat (first | exact Drawn0.refl _ | apply Drawn0.step)⟩
 case round =>
  clear H'
  try clear p2
  obtain ⟨x9_1,rfl,HA,HK1,⟨m1,rfl⟩⟩:=hrel;cases gk with
  | zero=>exact absurd HA.out (by simp [impl_hasInt.l0])
  | succ k1 =>
   have H:=HA.out;clear HA;simp only [impl_hasInt.l0] at H
   by_cases c3 : x9_1 < (l0.length : Int)
   ·rw [if_pos c3] at H;have c3b0 : decide (x9_1 < (l0.length : Int)) = true:=decide_eq_true c3;clear c3
    by_cases c4 : 0 ≤ x9_1
    ·rw [if_pos c4] at H;have c4b0 : decide (0 ≤ x9_1) = true:=decide_eq_true c4;clear c4
     by_cases c5 : x9_1 < (l0.length : Int)
     ·rw [if_pos c5] at H;have c5b0 : decide (x9_1 < (l0.length : Int)) = true:=decide_eq_true c5;clear c5
      by_cases c6 : (rd l0 x9_1) = a1
      ·rw [if_pos c6] at H;have c6b0 : ((rd l0 x9_1) == a1) = true:=beq_iff_eq.mpr c6;have c6b1 : ((rd l0 x9_1) != a1) = false:=bne_eq_false_iff_eq.mpr c6;clear c6;obtain rfl:=Option.some.inj H;have p298 : 0 ≤ (x9_1 : Int):=zDe (by first | (with_reducible assumption) | assumption);have q298 : x9_1 < (l0.length : Int):=zDe (by first | (with_reducible assumption) | assumption);obtain ⟨ad298,e298,hx298_0⟩:=Kd.at_int HR0.out x9_1 p298 q298;cases e298;replace p298:=eq_true p298;replace q298:=eq_true q298
       go_wp2
       go_ret
       exact ⟨by first | rfl | (simp;done) | (simp [*];done),by repeat (first | exact Drawn0.refl _ | apply Drawn0.step)⟩
      rw [if_neg c6] at H;have c6b0 : ((rd l0 x9_1) == a1) = false:=beq_eq_false_iff_ne.mpr c6;have c6b1 : ((rd l0 x9_1) != a1) = true:=bne_iff_ne.mpr c6;have H':=zMk H;clear H;have p298 : 0 ≤ (x9_1 : Int):=zDe (by first | (with_reducible assumption) | assumption);have q298 : x9_1 < (l0.length : Int):=zDe (by first | (with_reducible assumption) | assumption);obtain ⟨ad298,e298,hx298_0⟩:=Kd.at_int HR0.out x9_1 p298 q298;cases e298;replace p298:=eq_true p298;replace q298:=eq_true q298
      go_wp2
      go_roundg k1;case measure=>have:=HK1.out;omega
      case rel=>exact ⟨(wrap64 (x9_1 + 1)),(by first | rfl | (simp;done) | (simp [*];done)),H',⟨by have:=HK1.out;omega⟩,by repeat (first | exact Drawn0.refl _ | apply Drawn0.step)⟩
     rw [if_neg c5] at H;exact absurd H (by simp)
    rw [if_neg c4] at H;exact absurd H (by simp)
   rw [if_neg c3] at H;have c3b0 : decide (x9_1 < (l0.length : Int)) = false:=decide_eq_false c3;clear c3;obtain rfl:=Option.some.inj H
   go_wp2
   go_ret
   exact ⟨by first | rfl | (simp;done) | (simp [*];done),by repeat (first | exact Drawn0.refl _ | apply Drawn0.step)⟩
def impl_metaOf.l0 : Nat → Int → Int → Int → List (S36) → Int → Int → Option (Int × Int × Int × Int × Int × ByteArray × Bool)
 | 0,_,_,_,_,_,_=>none
 | k + 1,x1,x2,x3,x13,x14,x15=>if x15 < x14 then (if 0 ≤ x15 then (if x15 < (x13.length : Int) then (if ((rd_T36 x13 x15).f2.f0) = 2 then (if ((rd_T36 x13 x15).f2.f2) = x1 then (if ((rd_T36 x13 x15).f2.f3) = x2 then (if x3 = 0 then (some ((rd_T36 x13 x15).f2.f0,(rd_T36 x13 x15).f2.f1,(rd_T36 x13 x15).f2.f2,(rd_T36 x13 x15).f2.f3,(rd_T36 x13 x15).f2.f4,(rd_T36 x13 x15).f2.f5,true)) else (if ((rd_T36 x13 x15).f2.f4) = x3 then (some ((rd_T36 x13 x15).f2.f0,(rd_T36 x13 x15).f2.f1,(rd_T36 x13 x15).f2.f2,(rd_T36 x13 x15).f2.f3,(rd_T36 x13 x15).f2.f4,(rd_T36 x13 x15).f2.f5,true)) else (impl_metaOf.l0 k x1 x2 x3 x13 x14 (wrap64 (x15 + 1))))) else (impl_metaOf.l0 k x1 x2 x3 x13 x14 (wrap64 (x15 + 1)))) else (impl_metaOf.l0 k x1 x2 x3 x13 x14 (wrap64 (x15 + 1)))) else (impl_metaOf.l0 k x1 x2 x3 x13 x14 (wrap64 (x15 + 1)))) else (none)) else (none)) else (some (0,0,0,0,0,(⟨#[]⟩ : ByteArray),false))
def impl_metaOf.f (k : Nat) (l0 : List (S36)) (a1 : Int) (a2 : Int) (a3 : Int) : Option (Int × Int × Int × Int × Int × ByteArray × Bool):=impl_metaOf.l0 k a1 a2 a3 l0 (l0.length : Int) 0
theorem impl_metaOf.mono_l : ∀ k,(∀ y0 y1 y2 y3 y4 y5,LeO (impl_metaOf.l0 k y0 y1 y2 y3 y4 y5) (impl_metaOf.l0 (k + 1) y0 y1 y2 y3 y4 y5))
 | 0=>fun _ _ _ _ _ _ r h=>by simp [impl_metaOf.l0] at h
 | k + 1=>by
  have ih0:=impl_metaOf.mono_l k;intro y0 y1 y2 y3 y4 y5;unfold impl_metaOf.l0
  repeat' first
  | (with_reducible exact ih0 _ _ _ _ _ _)
  | (with_reducible exact LeO.refl _)
  | (with_reducible exact LeO.none _)
  | (with_reducible refine LeO.ite ?_ ?_)
  | (with_reducible refine LeO.bind ?_ (fun _=>?_))
  | exact ih0 _ _ _ _ _ _
  | exact LeO.none _
  | refine LeO.ite ?_ ?_
  | refine LeO.bind ?_ (fun _=>?_)
theorem impl_metaOf.mono : ∀ a0 a1 a2 a3 k,LeO (impl_metaOf.f k a0 a1 a2 a3) (impl_metaOf.f (k + 1) a0 a1 a2 a3):=by
 intro a0 a1 a2 a3 k;have ih0:=impl_metaOf.mono_l k;unfold impl_metaOf.f
 repeat' first
   | (with_reducible exact ih0 _ _ _ _ _ _)
   | (with_reducible exact LeO.refl _)
   | (with_reducible exact LeO.none _)
   | (with_reducible refine LeO.ite ?_ ?_)
   | (with_reducible refine LeO.bind ?_ (fun _=>?_))
   | exact ih0 _ _ _ _ _ _
   | exact LeO.none _
   | refine LeO.ite ?_ ?_
   | refine LeO.bind ?_ (fun _=>?_)
set_option maxHeartbeats 8000000 in
set_option maxRecDepth 100000 in
theorem impl_metaOf.calls (k : Nat) (A0 : Option Addr) (c0 : Nat) (l0 : List (S36)) (a1 : Int) (a2 : Int) (a3 : Int) (r1 : Int) (r2 : Int) (r3 : Int) (r4 : Int) (r5 : Int) (r6 : ByteArray) (r7 : Bool) (w : World) (hr0 : Kd.C k36 w A0 l0.length l0) (hc0 : l0.length ≤ c0) (h : impl_metaOf.f k l0 a1 a2 a3 = some (r1,r2,r3,r4,r5,r6,r7)) :
  Calls Try.prog 55 #[.slice A0 l0.length c0,.int .i64 a1,.int .i64 a2,.int .i64 a3] w fun e w'=>e = .returned (.tuple #[.agg #[.int .i64 r1,.int .i64 r2,.int .i64 r3,.int .i64 r4,.int .i64 r5,.string r6],.bool r7]) ∧ Below w.heap.size w w':=by
 have hu33:=Try.underlying33;have hu36:=Try.underlying36;have HR0:=zMk hr0;have HC0:=zMk hc0;clear hr0 hc0;have HB:=zMk (Below.refl w.heap.size w);have H : (impl_metaOf.l0 k a1 a2 a3 l0 (l0.length : Int) 0) = some (r1,r2,r3,r4,r5,r6,r7):=h;clear h;have H':=zMk H;clear H
 go_enter Try.func55,Try.ntmps55
 go_wp2_with (first | ((with_reducible refine gate_dst (N:=8) rfl ?_);refine box_event ?hg (N:=8) ?hd (cs:=#[.int .i64 0,.int .i64 0,.int .i64 0,.int .i64 0,.int .i64 0,.string (⟨#[]⟩ : ByteArray)]) (t:=33) ?hr ?_;(case hd=>rfl);(case hg=>rfl);(case hr=>first | (go_simp;done) | (go_simp;rfl));intro gb419 hg w5 hbox hb;have n0_:=zMk (below_step (hs HB) hb);have n1_:=zMk (hbox);have n2_:=zMk ((by rw [hg];exact (below_size (hs HB)) : w.heap.size ≤ gb419));have n3_:=zMk ((by rw [hg];exact (below_size (hs HB)) : w.heap.size ≤ gb419));clear HB;have HB:=n0_;have BK419:=n1_;have GW419:=n2_;have GE419:=n3_;clear n0_ n1_ n2_ n3_;clear hb hbox hg));go_loopg [15] k (fun kq v15 w'=>∃ (x15_1 : Int) (x420000_1 : Int) (x420001_1 : Int) (x420002_1 : Int) (x420003_1 : Int) (x420004_1 : Int) (x420005_1 : ByteArray),v15 = .int .i64 x15_1 ∧ Aside0 (impl_metaOf.l0 kq a1 a2 a3 l0 (l0.length : Int) x15_1 = some (r1,r2,r3,r4,r5,r6,r7)) ∧ Aside0 (kq ≤ k) ∧ Aside0 (w'.heap[gb419]? = some (.cells #[.int .i64 x420000_1,.int .i64 x420001_1,.int .i64 x420002_1,.int .i64 x420003_1,.int .i64 x420004_1,.string x420005_1] 33 (0,0))) ∧ Aside0 (Below w.heap.size w w'));case atStart=>exact ⟨(0),(0),(0),(0),(0),(0),((⟨#[]⟩ : ByteArray)),(by first | rfl | (simp;done) | (simp [*];done)),H',⟨Nat.le_refl _⟩,⟨bs BK419⟩,⟨hs1 HB GE419⟩⟩
 case round =>
  clear H'
  try clear p2
  try clear c5
  obtain ⟨x15_1,x420000_1,x420001_1,x420002_1,x420003_1,x420004_1,x420005_1,rfl,HA,HK1,BK419,HB⟩:=hrel;cases gk with
  | zero=>exact absurd HA.out (by simp [impl_metaOf.l0])
  | succ k1 =>
   have H:=HA.out;clear HA;simp only [impl_metaOf.l0] at H
   by_cases c6 : x15_1 < (l0.length : Int)
   ·rw [if_pos c6] at H;have c6b0 : decide (x15_1 < (l0.length : Int)) = true:=decide_eq_true c6;clear c6
    by_cases c7 : 0 ≤ x15_1
    ·rw [if_pos c7] at H;have c7b0 : decide (0 ≤ x15_1) = true:=decide_eq_true c7;clear c7
     by_cases c8 : x15_1 < (l0.length : Int)
     ·rw [if_pos c8] at H;have c8b0 : decide (x15_1 < (l0.length : Int)) = true:=decide_eq_true c8;clear c8;have p420 : 0 ≤ (x15_1 : Int):=zDe (by first | (with_reducible assumption) | assumption);have q420 : x15_1 < (l0.length : Int):=zDe (by first | (with_reducible assumption) | assumption);obtain ⟨ad420,e420,hx420_0,hx420_1,hx420_2,hx420_3,hx420_4,hx420_5,hx420_6,hx420_7⟩:=at_T36 HR0.out x15_1 p420 q420;cases e420;replace hx420_0:=(HB.out.cell (zBl w _ hx420_0)).trans hx420_0;replace hx420_1:=(HB.out.cell (zBl w _ hx420_1)).trans hx420_1;replace hx420_2:=(HB.out.cell (zBl w _ hx420_2)).trans hx420_2;replace hx420_3:=(HB.out.cell (zBl w _ hx420_3)).trans hx420_3;replace hx420_4:=(HB.out.cell (zBl w _ hx420_4)).trans hx420_4;replace hx420_5:=(HB.out.cell (zBl w _ hx420_5)).trans hx420_5;replace hx420_6:=(HB.out.cell (zBl w _ hx420_6)).trans hx420_6;replace hx420_7:=(HB.out.cell (zBl w _ hx420_7)).trans hx420_7;replace p420:=eq_true p420;replace q420:=eq_true q420;go_upto_region 5 with (first | ((with_reducible refine gate_dst (N:=11) rfl ?_);refine box_event ?hg (N:=11) ?hd (cs:=#[.int .i64 0,.int .i64 0,.int .i64 0,.int .i64 0,.int .i64 0,.int .i64 0,.int .i64 0,.string (⟨#[]⟩ : ByteArray)]) (t:=36) ?hr ?_;(case hd=>rfl);(case hg=>rfl);(case hr=>first | (go_simp;done) | (go_simp;rfl));intro gb421 hg w13 hbox hb;have n0_:=zMk (blk_below (g:=gb419) (o:=.cells #[.int .i64 x420000_1,.int .i64 x420001_1,.int .i64 x420002_1,.int .i64 x420003_1,.int .i64 x420004_1,.string x420005_1] 33 (0,0)) (bs BK419) hb);have n1_:=zMk (below_step (hs1 HB GE419) hb);have n2_:=zMk (hbox);have n3_:=zMk ((by rw [hg];exact (below_size (hs1 HB GE419)) : w.heap.size ≤ gb421));have n4_:=zMk ((by rw [hg];exact (below_size (hs1 HB GE419)) : w.heap.size ≤ gb421));have n5_:=zMk ((by rw [hg];exact Nat.ne_of_lt (blk_lt (g:=gb419) (o:=.cells #[.int .i64 x420000_1,.int .i64 x420001_1,.int .i64 x420002_1,.int .i64 x420003_1,.int .i64 x420004_1,.string x420005_1] 33 (0,0)) (bs BK419)) : gb419 ≠ gb421));have n6_:=zMk ((by rw [hg];exact Nat.ne_of_gt (blk_lt (g:=gb419) (o:=.cells #[.int .i64 x420000_1,.int .i64 x420001_1,.int .i64 x420002_1,.int .i64 x420003_1,.int .i64 x420004_1,.string x420005_1] 33 (0,0)) (bs BK419)) : gb421 ≠ gb419));clear BK419;clear HB;have BK419:=n0_;have HB:=n1_;have BK421:=n2_;have GW421:=n3_;have GE421:=n4_;have NB419_421:=n5_;have NB421_419:=n6_;clear n0_ n1_ n2_ n3_ n4_ n5_ n6_;clear hb hbox hg;have hnb14:=NB421_419.out;have hnc14:=NB419_421.out;have hcz15_0 : w13.cell? ⟨gb421,0,none⟩ = some (.int .i64 0):=(zCl BK421.out 0).trans rfl;have hcz15_1 : w13.cell? ⟨gb421,1,none⟩ = some (.int .i64 0):=(zCl BK421.out 1).trans rfl;have hcz15_2 : w13.cell? ⟨gb421,2,none⟩ = some (.int .i64 0):=(zCl BK421.out 2).trans rfl;have hcz15_3 : w13.cell? ⟨gb421,3,none⟩ = some (.int .i64 0):=(zCl BK421.out 3).trans rfl;have hcz15_4 : w13.cell? ⟨gb421,4,none⟩ = some (.int .i64 0):=(zCl BK421.out 4).trans rfl;have hcz15_5 : w13.cell? ⟨gb421,5,none⟩ = some (.int .i64 0):=(zCl BK421.out 5).trans rfl;have hcz15_6 : w13.cell? ⟨gb421,6,none⟩ = some (.int .i64 0):=(zCl BK421.out 6).trans rfl;have hcz15_7 : w13.cell? ⟨gb421,7,none⟩ = some (.string (⟨#[]⟩ : ByteArray)):=(zCl BK421.out 7).trans rfl;have hfz15_0:=zFr BK421.out 0;have hfz15_1:=zFr BK421.out 1;have hfz15_2:=zFr BK421.out 2;have hfz15_3:=zFr BK421.out 3;have hfz15_4:=zFr BK421.out 4;have hfz15_5:=zFr BK421.out 5;have hfz15_6:=zFr BK421.out 6;have hfz15_7:=zFr BK421.out 7) | ((with_reducible refine gate_dst (N:=12) rfl ?_);refine box_event ?hg (N:=12) ?hd (cs:=#[.int .i64 0,.int .i64 0,.int .i64 0,.int .i64 0,.int .i64 0,.string (⟨#[]⟩ : ByteArray)]) (t:=33) ?hr ?_;(case hd=>rfl);(case hg=>rfl);(case hr=>first | (go_simp;done) | (go_simp;rfl));intro gb422 hg w16 hbox hb;have n0_:=zMk (blk_below (g:=gb419) (o:=.cells #[.int .i64 x420000_1,.int .i64 x420001_1,.int .i64 x420002_1,.int .i64 x420003_1,.int .i64 x420004_1,.string x420005_1] 33 (0,0)) (by (with_reducible repeat (first | refine blk_drewN ?_ _ | refine blk_drew ?_ | refine blk_alloc ?_ _));refine blk_far ?_ NB419_421.out _;(with_reducible repeat (first | refine blk_drewN ?_ _ | refine blk_drew ?_ | refine blk_alloc ?_ _));refine blk_far ?_ NB419_421.out _;(with_reducible repeat (first | refine blk_drewN ?_ _ | refine blk_drew ?_ | refine blk_alloc ?_ _));refine blk_far ?_ NB419_421.out _;(with_reducible repeat (first | refine blk_drewN ?_ _ | refine blk_drew ?_ | refine blk_alloc ?_ _));refine blk_far ?_ NB419_421.out _;(with_reducible repeat (first | refine blk_drewN ?_ _ | refine blk_drew ?_ | refine blk_alloc ?_ _));refine blk_far ?_ NB419_421.out _;(with_reducible repeat (first | refine blk_drewN ?_ _ | refine blk_drew ?_ | refine blk_alloc ?_ _));refine blk_far ?_ NB419_421.out _;(with_reducible repeat (first | refine blk_drewN ?_ _ | refine blk_drew ?_ | refine blk_alloc ?_ _));refine blk_far ?_ NB419_421.out _;(with_reducible repeat (first | refine blk_drewN ?_ _ | refine blk_drew ?_ | refine blk_alloc ?_ _));refine blk_far ?_ NB419_421.out _;(with_reducible repeat (first | refine blk_drewN ?_ _ | refine blk_drew ?_ | refine blk_alloc ?_ _));exact BK419.out) hb);have n1_:=zMk (blk_below (g:=gb421) (o:=.cells #[.int .i64 ((rd_T36 l0 x15_1).f0),.int .i64 ((rd_T36 l0 x15_1).f1),.int .i64 ((rd_T36 l0 x15_1).f2.f0),.int .i64 ((rd_T36 l0 x15_1).f2.f1),.int .i64 ((rd_T36 l0 x15_1).f2.f2),.int .i64 ((rd_T36 l0 x15_1).f2.f3),.int .i64 ((rd_T36 l0 x15_1).f2.f4),.string ((rd_T36 l0 x15_1).f2.f5)] 36 (0,0)) (by (with_reducible repeat (first | refine blk_drewN ?_ _ | refine blk_drew ?_ | refine blk_alloc ?_ _));refine blk_put (cs:=#[.int .i64 ((rd_T36 l0 x15_1).f0),.int .i64 ((rd_T36 l0 x15_1).f1),.int .i64 ((rd_T36 l0 x15_1).f2.f0),.int .i64 ((rd_T36 l0 x15_1).f2.f1),.int .i64 ((rd_T36 l0 x15_1).f2.f2),.int .i64 ((rd_T36 l0 x15_1).f2.f3),.int .i64 ((rd_T36 l0 x15_1).f2.f4),.string (⟨#[]⟩ : ByteArray)]) ?_ 7 _ rfl;(with_reducible repeat (first | refine blk_drewN ?_ _ | refine blk_drew ?_ | refine blk_alloc ?_ _));refine blk_put (cs:=#[.int .i64 ((rd_T36 l0 x15_1).f0),.int .i64 ((rd_T36 l0 x15_1).f1),.int .i64 ((rd_T36 l0 x15_1).f2.f0),.int .i64 ((rd_T36 l0 x15_1).f2.f1),.int .i64 ((rd_T36 l0 x15_1).f2.f2),.int .i64 ((rd_T36 l0 x15_1).f2.f3),.int .i64 0,.string (⟨#[]⟩ : ByteArray)]) ?_ 6 _ rfl;(with_reducible repeat (first | refine blk_drewN ?_ _ | refine blk_drew ?_ | refine blk_alloc ?_ _));refine blk_put (cs:=#[.int .i64 ((rd_T36 l0 x15_1).f0),.int .i64 ((rd_T36 l0 x15_1).f1),.int .i64 ((rd_T36 l0 x15_1).f2.f0),.int .i64 ((rd_T36 l0 x15_1).f2.f1),.int .i64 ((rd_T36 l0 x15_1).f2.f2),.int .i64 0,.int .i64 0,.string (⟨#[]⟩ : ByteArray)]) ?_ 5 _ rfl;(with_reducible repeat (first | refine blk_drewN ?_ _ | refine blk_drew ?_ | refine blk_alloc ?_ _));refine blk_put (cs:=#[.int .i64 ((rd_T36 l0 x15_1).f0),.int .i64 ((rd_T36 l0 x15_1).f1),.int .i64 ((rd_T36 l0 x15_1).f2.f0),.int .i64 ((rd_T36 l0 x15_1).f2.f1),.int .i64 0,.int .i64 0,.int .i64 0,.string (⟨#[]⟩ : ByteArray)]) ?_ 4 _ rfl;(with_reducible repeat (first | refine blk_drewN ?_ _ | refine blk_drew ?_ | refine blk_alloc ?_ _));refine blk_put (cs:=#[.int .i64 ((rd_T36 l0 x15_1).f0),.int .i64 ((rd_T36 l0 x15_1).f1),.int .i64 ((rd_T36 l0 x15_1).f2.f0),.int .i64 0,.int .i64 0,.int .i64 0,.int .i64 0,.string (⟨#[]⟩ : ByteArray)]) ?_ 3 _ rfl;(with_reducible repeat (first | refine blk_drewN ?_ _ | refine blk_drew ?_ | refine blk_alloc ?_ _));refine blk_put (cs:=#[.int .i64 ((rd_T36 l0 x15_1).f0),.int .i64 ((rd_T36 l0 x15_1).f1),.int .i64 0,.int .i64 0,.int .i64 0,.int .i64 0,.int .i64 0,.string (⟨#[]⟩ : ByteArray)]) ?_ 2 _ rfl;(with_reducible repeat (first | refine blk_drewN ?_ _ | refine blk_drew ?_ | refine blk_alloc ?_ _));refine blk_put (cs:=#[.int .i64 ((rd_T36 l0 x15_1).f0),.int .i64 0,.int .i64 0,.int .i64 0,.int .i64 0,.int .i64 0,.int .i64 0,.string (⟨#[]⟩ : ByteArray)]) ?_ 1 _ rfl;(with_reducible repeat (first | refine blk_drewN ?_ _ | refine blk_drew ?_ | refine blk_alloc ?_ _));refine blk_put (cs:=#[.int .i64 0,.int .i64 0,.int .i64 0,.int .i64 0,.int .i64 0,.int .i64 0,.int .i64 0,.string (⟨#[]⟩ : ByteArray)]) ?_ 0 _ rfl;(with_reducible repeat (first | refine blk_drewN ?_ _ | refine blk_drew ?_ | refine blk_alloc ?_ _));exact BK421.out) hb);have n2_:=zMk (below_step (hs2 HB GE419 GE421) hb);have n3_:=zMk (hbox);have n4_:=zMk ((by rw [hg];exact (below_size (hs2 HB GE419 GE421)) : w.heap.size ≤ gb422));have n5_:=zMk ((by rw [hg];exact (below_size (hs2 HB GE419 GE421)) : w.heap.size ≤ gb422));have n6_:=zMk ((by rw [hg];exact Nat.ne_of_lt (blk_lt (g:=gb419) (o:=.cells #[.int .i64 x420000_1,.int .i64 x420001_1,.int .i64 x420002_1,.int .i64 x420003_1,.int .i64 x420004_1,.string x420005_1] 33 (0,0)) (by (with_reducible repeat (first | refine blk_drewN ?_ _ | refine blk_drew ?_ | refine blk_alloc ?_ _));refine blk_far ?_ NB419_421.out _;(with_reducible repeat (first | refine blk_drewN ?_ _ | refine blk_drew ?_ | refine blk_alloc ?_ _));refine blk_far ?_ NB419_421.out _;(with_reducible repeat (first | refine blk_drewN ?_ _ | refine blk_drew ?_ | refine blk_alloc ?_ _));refine blk_far ?_ NB419_421.out _;(with_reducible repeat (first | refine blk_drewN ?_ _ | refine blk_drew ?_ | refine blk_alloc ?_ _));refine blk_far ?_ NB419_421.out _;(with_reducible repeat (first | refine blk_drewN ?_ _ | refine blk_drew ?_ | refine blk_alloc ?_ _));refine blk_far ?_ NB419_421.out _;(with_reducible repeat (first | refine blk_drewN ?_ _ | refine blk_drew ?_ | refine blk_alloc ?_ _));refine blk_far ?_ NB419_421.out _;(with_reducible repeat (first | refine blk_drewN ?_ _ | refine blk_drew ?_ | refine blk_alloc ?_ _));refine blk_far ?_ NB419_421.out _;(with_reducible repeat (first | refine blk_drewN ?_ _ | refine blk_drew ?_ | refine blk_alloc ?_ _));refine blk_far ?_ NB419_421.out _;(with_reducible repeat (first | refine blk_drewN ?_ _ | refine blk_drew ?_ | refine blk_alloc ?_ _));exact BK419.out)) : gb419 ≠ gb422));have n7_:=zMk ((by rw [hg];exact Nat.ne_of_gt (blk_lt (g:=gb419) (o:=.cells #[.int .i64 x420000_1,.int .i64 x420001_1,.int .i64 x420002_1,.int .i64 x420003_1,.int .i64 x420004_1,.string x420005_1] 33 (0,0)) (by (with_reducible repeat (first | refine blk_drewN ?_ _ | refine blk_drew ?_ | refine blk_alloc ?_ _));refine blk_far ?_ NB419_421.out _;(with_reducible repeat (first | refine blk_drewN ?_ _ | refine blk_drew ?_ | refine blk_alloc ?_ _));refine blk_far ?_ NB419_421.out _;(with_reducible repeat (first | refine blk_drewN ?_ _ | refine blk_drew ?_ | refine blk_alloc ?_ _));refine blk_far ?_ NB419_421.out _;(with_reducible repeat (first | refine blk_drewN ?_ _ | refine blk_drew ?_ | refine blk_alloc ?_ _));refine blk_far ?_ NB419_421.out _;(with_reducible repeat (first | refine blk_drewN ?_ _ | refine blk_drew ?_ | refine blk_alloc ?_ _));refine blk_far ?_ NB419_421.out _;(with_reducible repeat (first | refine blk_drewN ?_ _ | refine blk_drew ?_ | refine blk_alloc ?_ _));refine blk_far ?_ NB419_421.out _;(with_reducible repeat (first | refine blk_drewN ?_ _ | refine blk_drew ?_ | refine blk_alloc ?_ _));refine blk_far ?_ NB419_421.out _;(with_reducible repeat (first | refine blk_drewN ?_ _ | refine blk_drew ?_ | refine blk_alloc ?_ _));refine blk_far ?_ NB419_421.out _;(with_reducible repeat (first | refine blk_drewN ?_ _ | refine blk_drew ?_ | refine blk_alloc ?_ _));exact BK419.out)) : gb422 ≠ gb419));have n8_:=zMk ((by rw [hg];exact Nat.ne_of_lt (blk_lt (g:=gb421) (o:=.cells #[.int .i64 ((rd_T36 l0 x15_1).f0),.int .i64 ((rd_T36 l0 x15_1).f1),.int .i64 ((rd_T36 l0 x15_1).f2.f0),.int .i64 ((rd_T36 l0 x15_1).f2.f1),.int .i64 ((rd_T36 l0 x15_1).f2.f2),.int .i64 ((rd_T36 l0 x15_1).f2.f3),.int .i64 ((rd_T36 l0 x15_1).f2.f4),.string ((rd_T36 l0 x15_1).f2.f5)] 36 (0,0)) (by (with_reducible repeat (first | refine blk_drewN ?_ _ | refine blk_drew ?_ | refine blk_alloc ?_ _));refine blk_put (cs:=#[.int .i64 ((rd_T36 l0 x15_1).f0),.int .i64 ((rd_T36 l0 x15_1).f1),.int .i64 ((rd_T36 l0 x15_1).f2.f0),.int .i64 ((rd_T36 l0 x15_1).f2.f1),.int .i64 ((rd_T36 l0 x15_1).f2.f2),.int .i64 ((rd_T36 l0 x15_1).f2.f3),.int .i64 ((rd_T36 l0 x15_1).f2.f4),.string (⟨#[]⟩ : ByteArray)]) ?_ 7 _ rfl;(with_reducible repeat (first | refine blk_drewN ?_ _ | refine blk_drew ?_ | refine blk_alloc ?_ _));refine blk_put (cs:=#[.int .i64 ((rd_T36 l0 x15_1).f0),.int .i64 ((rd_T36 l0 x15_1).f1),.int .i64 ((rd_T36 l0 x15_1).f2.f0),.int .i64 ((rd_T36 l0 x15_1).f2.f1),.int .i64 ((rd_T36 l0 x15_1).f2.f2),.int .i64 ((rd_T36 l0 x15_1).f2.f3),.int .i64 0,.string (⟨#[]⟩ : ByteArray)]) ?_ 6 _ rfl;(with_reducible repeat (first | refine blk_drewN ?_ _ | refine blk_drew ?_ | refine blk_alloc ?_ _));refine blk_put (cs:=#[.int .i64 ((rd_T36 l0 x15_1).f0),.int .i64 ((rd_T36 l0 x15_1).f1),.int .i64 ((rd_T36 l0 x15_1).f2.f0),.int .i64 ((rd_T36 l0 x15_1).f2.f1),.int .i64 ((rd_T36 l0 x15_1).f2.f2),.int .i64 0,.int .i64 0,.string (⟨#[]⟩ : ByteArray)]) ?_ 5 _ rfl;(with_reducible repeat (first | refine blk_drewN ?_ _ | refine blk_drew ?_ | refine blk_alloc ?_ _));refine blk_put (cs:=#[.int .i64 ((rd_T36 l0 x15_1).f0),.int .i64 ((rd_T36 l0 x15_1).f1),.int .i64 ((rd_T36 l0 x15_1).f2.f0),.int .i64 ((rd_T36 l0 x15_1).f2.f1),.int .i64 0,.int .i64 0,.int .i64 0,.string (⟨#[]⟩ : ByteArray)]) ?_ 4 _ rfl;(with_reducible repeat (first | refine blk_drewN ?_ _ | refine blk_drew ?_ | refine blk_alloc ?_ _));refine blk_put (cs:=#[.int .i64 ((rd_T36 l0 x15_1).f0),.int .i64 ((rd_T36 l0 x15_1).f1),.int .i64 ((rd_T36 l0 x15_1).f2.f0),.int .i64 0,.int .i64 0,.int .i64 0,.int .i64 0,.string (⟨#[]⟩ : ByteArray)]) ?_ 3 _ rfl;(with_reducible repeat (first | refine blk_drewN ?_ _ | refine blk_drew ?_ | refine blk_alloc ?_ _));refine blk_put (cs:=#[.int .i64 ((rd_T36 l0 x15_1).f0),.int .i64 ((rd_T36 l0 x15_1).f1),.int .i64 0,.int .i64 0,.int .i64 0,.int .i64 0,.int .i64 0,.string (⟨#[]⟩ : ByteArray)]) ?_ 2 _ rfl;(with_reducible repeat (first | refine blk_drewN ?_ _ | refine blk_drew ?_ | refine blk_alloc ?_ _));refine blk_put (cs:=#[.int .i64 ((rd_T36 l0 x15_1).f0),.int .i64 0,.int .i64 0,.int .i64 0,.int .i64 0,.int .i64 0,.int .i64 0,.string (⟨#[]⟩ : ByteArray)]) ?_ 1 _ rfl;(with_reducible repeat (first | refine blk_drewN ?_ _ | refine blk_drew ?_ | refine blk_alloc ?_ _));refine blk_put (cs:=#[.int .i64 0,.int .i64 0,.int .i64 0,.int .i64 0,.int .i64 0,.int .i64 0,.int .i64 0,.string (⟨#[]⟩ : ByteArray)]) ?_ 0 _ rfl;(with_reducible repeat (first | refine blk_drewN ?_ _ | refine blk_drew ?_ | refine blk_alloc ?_ _));exact BK421.out)) : gb421 ≠ gb422));have n9_:=zMk ((by rw [hg];exact Nat.ne_of_gt (blk_lt (g:=gb421) (o:=.cells #[.int .i64 ((rd_T36 l0 x15_1).f0),.int .i64 ((rd_T36 l0 x15_1).f1),.int .i64 ((rd_T36 l0 x15_1).f2.f0),.int .i64 ((rd_T36 l0 x15_1).f2.f1),.int .i64 ((rd_T36 l0 x15_1).f2.f2),.int .i64 ((rd_T36 l0 x15_1).f2.f3),.int .i64 ((rd_T36 l0 x15_1).f2.f4),.string ((rd_T36 l0 x15_1).f2.f5)] 36 (0,0)) (by (with_reducible repeat (first | refine blk_drewN ?_ _ | refine blk_drew ?_ | refine blk_alloc ?_ _));refine blk_put (cs:=#[.int .i64 ((rd_T36 l0 x15_1).f0),.int .i64 ((rd_T36 l0 x15_1).f1),.int .i64 ((rd_T36 l0 x15_1).f2.f0),.int .i64 ((rd_T36 l0 x15_1).f2.f1),.int .i64 ((rd_T36 l0 x15_1).f2.f2),.int .i64 ((rd_T36 l0 x15_1).f2.f3),.int .i64 ((rd_T36 l0 x15_1).f2.f4),.string (⟨#[]⟩ : ByteArray)]) ?_ 7 _ rfl;(with_reducible repeat (first | refine blk_drewN ?_ _ | refine blk_drew ?_ | refine blk_alloc ?_ _));refine blk_put (cs:=#[.int .i64 ((rd_T36 l0 x15_1).f0),.int .i64 ((rd_T36 l0 x15_1).f1),.int .i64 ((rd_T36 l0 x15_1).f2.f0),.int .i64 ((rd_T36 l0 x15_1).f2.f1),.int .i64 ((rd_T36 l0 x15_1).f2.f2),.int .i64 ((rd_T36 l0 x15_1).f2.f3),.int .i64 0,.string (⟨#[]⟩ : ByteArray)]) ?_ 6 _ rfl;(with_reducible repeat (first | refine blk_drewN ?_ _ | refine blk_drew ?_ | refine blk_alloc ?_ _));refine blk_put (cs:=#[.int .i64 ((rd_T36 l0 x15_1).f0),.int .i64 ((rd_T36 l0 x15_1).f1),.int .i64 ((rd_T36 l0 x15_1).f2.f0),.int .i64 ((rd_T36 l0 x15_1).f2.f1),.int .i64 ((rd_T36 l0 x15_1).f2.f2),.int .i64 0,.int .i64 0,.string (⟨#[]⟩ : ByteArray)]) ?_ 5 _ rfl;(with_reducible repeat (first | refine blk_drewN ?_ _ | refine blk_drew ?_ | refine blk_alloc ?_ _));refine blk_put (cs:=#[.int .i64 ((rd_T36 l0 x15_1).f0),.int .i64 ((rd_T36 l0 x15_1).f1),.int .i64 ((rd_T36 l0 x15_1).f2.f0),.int .i64 ((rd_T36 l0 x15_1).f2.f1),.int .i64 0,.int .i64 0,.int .i64 0,.string (⟨#[]⟩ : ByteArray)]) ?_ 4 _ rfl;(with_reducible repeat (first | refine blk_drewN ?_ _ | refine blk_drew ?_ | refine blk_alloc ?_ _));refine blk_put (cs:=#[.int .i64 ((rd_T36 l0 x15_1).f0),.int .i64 ((rd_T36 l0 x15_1).f1),.int .i64 ((rd_T36 l0 x15_1).f2.f0),.int .i64 0,.int .i64 0,.int .i64 0,.int .i64 0,.string (⟨#[]⟩ : ByteArray)]) ?_ 3 _ rfl;(with_reducible repeat (first | refine blk_drewN ?_ _ | refine blk_drew ?_ | refine blk_alloc ?_ _));refine blk_put (cs:=#[.int .i64 ((rd_T36 l0 x15_1).f0),.int .i64 ((rd_T36 l0 x15_1).f1),.int .i64 0,.int .i64 0,.int .i64 0,.int .i64 0,.int .i64 0,.string (⟨#[]⟩ : ByteArray)]) ?_ 2 _ rfl;(with_reducible repeat (first | refine blk_drewN ?_ _ | refine blk_drew ?_ | refine blk_alloc ?_ _));refine blk_put (cs:=#[.int .i64 ((rd_T36 l0 x15_1).f0),.int .i64 0,.int .i64 0,.int .i64 0,.int .i64 0,.int .i64 0,.int .i64 0,.string (⟨#[]⟩ : ByteArray)]) ?_ 1 _ rfl;(with_reducible repeat (first | refine blk_drewN ?_ _ | refine blk_drew ?_ | refine blk_alloc ?_ _));refine blk_put (cs:=#[.int .i64 0,.int .i64 0,.int .i64 0,.int .i64 0,.int .i64 0,.int .i64 0,.int .i64 0,.string (⟨#[]⟩ : ByteArray)]) ?_ 0 _ rfl;(with_reducible repeat (first | refine blk_drewN ?_ _ | refine blk_drew ?_ | refine blk_alloc ?_ _));exact BK421.out)) : gb422 ≠ gb421));clear BK419;clear BK421;clear HB;have BK419:=n0_;have BK421:=n1_;have HB:=n2_;have BK422:=n3_;have GW422:=n4_;have GE422:=n5_;have NB419_422:=n6_;have NB422_419:=n7_;have NB421_422:=n8_;have NB422_421:=n9_;clear n0_ n1_ n2_ n3_ n4_ n5_ n6_ n7_ n8_ n9_;clear hb hbox hg;have hnb17:=NB422_419.out;have hnc17:=NB419_422.out;have hnb18:=NB422_421.out;have hnc18:=NB421_422.out;have hcz19_0 : w16.cell? ⟨gb422,0,none⟩ = some (.int .i64 0):=(zCl BK422.out 0).trans rfl;have hcz19_1 : w16.cell? ⟨gb422,1,none⟩ = some (.int .i64 0):=(zCl BK422.out 1).trans rfl;have hcz19_2 : w16.cell? ⟨gb422,2,none⟩ = some (.int .i64 0):=(zCl BK422.out 2).trans rfl;have hcz19_3 : w16.cell? ⟨gb422,3,none⟩ = some (.int .i64 0):=(zCl BK422.out 3).trans rfl;have hcz19_4 : w16.cell? ⟨gb422,4,none⟩ = some (.int .i64 0):=(zCl BK422.out 4).trans rfl;have hcz19_5 : w16.cell? ⟨gb422,5,none⟩ = some (.string (⟨#[]⟩ : ByteArray)):=(zCl BK422.out 5).trans rfl;have hfz19_0:=zFr BK422.out 0;have hfz19_1:=zFr BK422.out 1;have hfz19_2:=zFr BK422.out 2;have hfz19_3:=zFr BK422.out 3;have hfz19_4:=zFr BK422.out 4;have hfz19_5:=zFr BK422.out 5))
      (try simp only [Act.put,zS1,zS2,zS3])
      by_cases c9 : ((rd_T36 l0 x15_1).f2.f0) = 2
      ·rw [if_pos c9] at H;have c9b0 : (((rd_T36 l0 x15_1).f2.f0) == 2) = true:=beq_iff_eq.mpr c9;have c9b1 : (((rd_T36 l0 x15_1).f2.f0) != 2) = false:=bne_eq_false_iff_eq.mpr c9;clear c9
       by_cases c10 : ((rd_T36 l0 x15_1).f2.f2) = a1
       ·rw [if_pos c10] at H;have c10b0 : (((rd_T36 l0 x15_1).f2.f2) == a1) = true:=beq_iff_eq.mpr c10;have c10b1 : (((rd_T36 l0 x15_1).f2.f2) != a1) = false:=bne_eq_false_iff_eq.mpr c10;clear c10
        by_cases c11 : ((rd_T36 l0 x15_1).f2.f3) = a2
        ·rw [if_pos c11] at H;have c11b0 : (((rd_T36 l0 x15_1).f2.f3) == a2) = true:=beq_iff_eq.mpr c11;have c11b1 : (((rd_T36 l0 x15_1).f2.f3) != a2) = false:=bne_eq_false_iff_eq.mpr c11;clear c11
         by_cases c12 : a3 = 0
         ·rw [if_pos c12] at H;have c12b0 : (a3 == 0) = true:=beq_iff_eq.mpr c12;have c12b1 : (a3 != 0) = false:=bne_eq_false_iff_eq.mpr c12;clear c12;simp only [Option.some.injEq,Prod.mk.injEq] at H;obtain ⟨rfl,rfl,rfl,rfl,rfl,rfl,rfl⟩:=H;have hcz20_0 : w16.cell? ⟨gb419,0,none⟩ = some (.int .i64 x420000_1):=(zCl BK419.out 0).trans rfl;have hcz20_1 : w16.cell? ⟨gb419,1,none⟩ = some (.int .i64 x420001_1):=(zCl BK419.out 1).trans rfl;have hcz20_2 : w16.cell? ⟨gb419,2,none⟩ = some (.int .i64 x420002_1):=(zCl BK419.out 2).trans rfl;have hcz20_3 : w16.cell? ⟨gb419,3,none⟩ = some (.int .i64 x420003_1):=(zCl BK419.out 3).trans rfl;have hcz20_4 : w16.cell? ⟨gb419,4,none⟩ = some (.int .i64 x420004_1):=(zCl BK419.out 4).trans rfl;have hcz20_5 : w16.cell? ⟨gb419,5,none⟩ = some (.string x420005_1):=(zCl BK419.out 5).trans rfl;have hfz20_0:=zFr BK419.out 0;have hfz20_1:=zFr BK419.out 1;have hfz20_2:=zFr BK419.out 2;have hfz20_3:=zFr BK419.out 3;have hfz20_4:=zFr BK419.out 4;have hfz20_5:=zFr BK419.out 5
          go_wp2
          refine bodyPost_ret (results_ct rfl _ _ gb419 33 #[.int .i64 ((rd_T36 l0 x15_1).f2.f0),.int .i64 ((rd_T36 l0 x15_1).f2.f1),.int .i64 ((rd_T36 l0 x15_1).f2.f2),.int .i64 ((rd_T36 l0 x15_1).f2.f3),.int .i64 ((rd_T36 l0 x15_1).f2.f4),.string ((rd_T36 l0 x15_1).f2.f5)] (0,0) _ rfl (by (with_reducible repeat (first | refine blk_drewN ?_ _ | refine blk_drew ?_ | refine blk_alloc ?_ _));refine blk_put (cs:=#[.int .i64 ((rd_T36 l0 x15_1).f2.f0),.int .i64 ((rd_T36 l0 x15_1).f2.f1),.int .i64 ((rd_T36 l0 x15_1).f2.f2),.int .i64 ((rd_T36 l0 x15_1).f2.f3),.int .i64 ((rd_T36 l0 x15_1).f2.f4),.string x420005_1]) ?_ 5 _ rfl;(with_reducible repeat (first | refine blk_drewN ?_ _ | refine blk_drew ?_ | refine blk_alloc ?_ _));refine blk_put (cs:=#[.int .i64 ((rd_T36 l0 x15_1).f2.f0),.int .i64 ((rd_T36 l0 x15_1).f2.f1),.int .i64 ((rd_T36 l0 x15_1).f2.f2),.int .i64 ((rd_T36 l0 x15_1).f2.f3),.int .i64 x420004_1,.string x420005_1]) ?_ 4 _ rfl;(with_reducible repeat (first | refine blk_drewN ?_ _ | refine blk_drew ?_ | refine blk_alloc ?_ _));refine blk_put (cs:=#[.int .i64 ((rd_T36 l0 x15_1).f2.f0),.int .i64 ((rd_T36 l0 x15_1).f2.f1),.int .i64 ((rd_T36 l0 x15_1).f2.f2),.int .i64 x420003_1,.int .i64 x420004_1,.string x420005_1]) ?_ 3 _ rfl;(with_reducible repeat (first | refine blk_drewN ?_ _ | refine blk_drew ?_ | refine blk_alloc ?_ _));refine blk_put (cs:=#[.int .i64 ((rd_T36 l0 x15_1).f2.f0),.int .i64 ((rd_T36 l0 x15_1).f2.f1),.int .i64 x420002_1,.int .i64 x420003_1,.int .i64 x420004_1,.string x420005_1]) ?_ 2 _ rfl;(with_reducible repeat (first | refine blk_drewN ?_ _ | refine blk_drew ?_ | refine blk_alloc ?_ _));refine blk_put (cs:=#[.int .i64 ((rd_T36 l0 x15_1).f2.f0),.int .i64 x420001_1,.int .i64 x420002_1,.int .i64 x420003_1,.int .i64 x420004_1,.string x420005_1]) ?_ 1 _ rfl;(with_reducible repeat (first | refine blk_drewN ?_ _ | refine blk_drew ?_ | refine blk_alloc ?_ _));refine blk_put (cs:=#[.int .i64 x420000_1,.int .i64 x420001_1,.int .i64 x420002_1,.int .i64 x420003_1,.int .i64 x420004_1,.string x420005_1]) ?_ 0 _ rfl;(with_reducible repeat (first | refine blk_drewN ?_ _ | refine blk_drew ?_ | refine blk_alloc ?_ _));refine blk_far ?_ NB419_422.out _;(with_reducible repeat (first | refine blk_drewN ?_ _ | refine blk_drew ?_ | refine blk_alloc ?_ _));refine blk_far ?_ NB419_422.out _;(with_reducible repeat (first | refine blk_drewN ?_ _ | refine blk_drew ?_ | refine blk_alloc ?_ _));refine blk_far ?_ NB419_422.out _;(with_reducible repeat (first | refine blk_drewN ?_ _ | refine blk_drew ?_ | refine blk_alloc ?_ _));refine blk_far ?_ NB419_422.out _;(with_reducible repeat (first | refine blk_drewN ?_ _ | refine blk_drew ?_ | refine blk_alloc ?_ _));refine blk_far ?_ NB419_422.out _;(with_reducible repeat (first | refine blk_drewN ?_ _ | refine blk_drew ?_ | refine blk_alloc ?_ _));refine blk_far ?_ NB419_422.out _;(with_reducible repeat (first | refine blk_drewN ?_ _ | refine blk_drew ?_ | refine blk_alloc ?_ _));exact BK419.out) Try.underlying33 rfl (by kernel_rfl)) rfl ?_;exact ⟨by first | rfl | (simp [errW_none,errW_some] <;> rfl) | (simp [*,errW_none,errW_some] <;> rfl),hs3 HB GE419 GE421 GE422⟩
         rw [if_neg c12] at H;have c12b0 : (a3 == 0) = false:=beq_eq_false_iff_ne.mpr c12;have c12b1 : (a3 != 0) = true:=bne_iff_ne.mpr c12
         by_cases c21 : ((rd_T36 l0 x15_1).f2.f4) = a3
         ·rw [if_pos c21] at H;have c21b0 : (((rd_T36 l0 x15_1).f2.f4) == a3) = true:=beq_iff_eq.mpr c21;have c21b1 : (((rd_T36 l0 x15_1).f2.f4) != a3) = false:=bne_eq_false_iff_eq.mpr c21;clear c21;simp only [Option.some.injEq,Prod.mk.injEq] at H;obtain ⟨rfl,rfl,rfl,rfl,rfl,rfl,rfl⟩:=H;have hcz29_0 : w16.cell? ⟨gb419,0,none⟩ = some (.int .i64 x420000_1):=(zCl BK419.out 0).trans rfl;have hcz29_1 : w16.cell? ⟨gb419,1,none⟩ = some (.int .i64 x420001_1):=(zCl BK419.out 1).trans rfl;have hcz29_2 : w16.cell? ⟨gb419,2,none⟩ = some (.int .i64 x420002_1):=(zCl BK419.out 2).trans rfl;have hcz29_3 : w16.cell? ⟨gb419,3,none⟩ = some (.int .i64 x420003_1):=(zCl BK419.out 3).trans rfl;have hcz29_4 : w16.cell? ⟨gb419,4,none⟩ = some (.int .i64 x420004_1):=(zCl BK419.out 4).trans rfl;have hcz29_5 : w16.cell? ⟨gb419,5,none⟩ = some (.string x420005_1):=(zCl BK419.out 5).trans rfl;have hfz29_0:=zFr BK419.out 0;have hfz29_1:=zFr BK419.out 1;have hfz29_2:=zFr BK419.out 2;have hfz29_3:=zFr BK419.out 3;have hfz29_4:=zFr BK419.out 4;have hfz29_5:=zFr BK419.out 5
          go_wp2
          refine bodyPost_ret (results_ct rfl _ _ gb419 33 #[.int .i64 ((rd_T36 l0 x15_1).f2.f0),.int .i64 ((rd_T36 l0 x15_1).f2.f1),.int .i64 ((rd_T36 l0 x15_1).f2.f2),.int .i64 ((rd_T36 l0 x15_1).f2.f3),.int .i64 ((rd_T36 l0 x15_1).f2.f4),.string ((rd_T36 l0 x15_1).f2.f5)] (0,0) _ rfl (by (with_reducible repeat (first | refine blk_drewN ?_ _ | refine blk_drew ?_ | refine blk_alloc ?_ _));refine blk_put (cs:=#[.int .i64 ((rd_T36 l0 x15_1).f2.f0),.int .i64 ((rd_T36 l0 x15_1).f2.f1),.int .i64 ((rd_T36 l0 x15_1).f2.f2),.int .i64 ((rd_T36 l0 x15_1).f2.f3),.int .i64 ((rd_T36 l0 x15_1).f2.f4),.string x420005_1]) ?_ 5 _ rfl;(with_reducible repeat (first | refine blk_drewN ?_ _ | refine blk_drew ?_ | refine blk_alloc ?_ _));refine blk_put (cs:=#[.int .i64 ((rd_T36 l0 x15_1).f2.f0),.int .i64 ((rd_T36 l0 x15_1).f2.f1),.int .i64 ((rd_T36 l0 x15_1).f2.f2),.int .i64 ((rd_T36 l0 x15_1).f2.f3),.int .i64 x420004_1,.string x420005_1]) ?_ 4 _ rfl;(with_reducible repeat (first | refine blk_drewN ?_ _ | refine blk_drew ?_ | refine blk_alloc ?_ _));refine blk_put (cs:=#[.int .i64 ((rd_T36 l0 x15_1).f2.f0),.int .i64 ((rd_T36 l0 x15_1).f2.f1),.int .i64 ((rd_T36 l0 x15_1).f2.f2),.int .i64 x420003_1,.int .i64 x420004_1,.string x420005_1]) ?_ 3 _ rfl;(with_reducible repeat (first | refine blk_drewN ?_ _ | refine blk_drew ?_ | refine blk_alloc ?_ _));refine blk_put (cs:=#[.int .i64 ((rd_T36 l0 x15_1).f2.f0),.int .i64 ((rd_T36 l0 x15_1).f2.f1),.int .i64 x420002_1,.int .i64 x420003_1,.int .i64 x420004_1,.string x420005_1]) ?_ 2 _ rfl;(with_reducible repeat (first | refine blk_drewN ?_ _ | refine blk_drew ?_ | refine blk_alloc ?_ _));refine blk_put (cs:=#[.int .i64 ((rd_T36 l0 x15_1).f2.f0),.int .i64 x420001_1,.int .i64 x420002_1,.int .i64 x420003_1,.int .i64 x420004_1,.string x420005_1]) ?_ 1 _ rfl;(with_reducible repeat (first | refine blk_drewN ?_ _ | refine blk_drew ?_ | refine blk_alloc ?_ _));refine blk_put (cs:=#[.int .i64 x420000_1,.int .i64 x420001_1,.int .i64 x420002_1,.int .i64 x420003_1,.int .i64 x420004_1,.string x420005_1]) ?_ 0 _ rfl;(with_reducible repeat (first | refine blk_drewN ?_ _ | refine blk_drew ?_ | refine blk_alloc ?_ _));refine blk_far ?_ NB419_422.out _;(with_reducible repeat (first | refine blk_drewN ?_ _ | refine blk_drew ?_ | refine blk_alloc ?_ _));refine blk_far ?_ NB419_422.out _;(with_reducible repeat (first | refine blk_drewN ?_ _ | refine blk_drew ?_ | refine blk_alloc ?_ _));refine blk_far ?_ NB419_422.out _;(with_reducible repeat (first | refine blk_drewN ?_ _ | refine blk_drew ?_ | refine blk_alloc ?_ _));refine blk_far ?_ NB419_422.out _;(with_reducible repeat (first | refine blk_drewN ?_ _ | refine blk_drew ?_ | refine blk_alloc ?_ _));refine blk_far ?_ NB419_422.out _;(with_reducible repeat (first | refine blk_drewN ?_ _ | refine blk_drew ?_ | refine blk_alloc ?_ _));refine blk_far ?_ NB419_422.out _;(with_reducible repeat (first | refine blk_drewN ?_ _ | refine blk_drew ?_ | refine blk_alloc ?_ _));exact BK419.out) Try.underlying33 rfl (by kernel_rfl)) rfl ?_;exact ⟨by first | rfl | (simp [errW_none,errW_some] <;> rfl) | (simp [*,errW_none,errW_some] <;> rfl),hs3 HB GE419 GE421 GE422⟩
         rw [if_neg c21] at H;have c21b0 : (((rd_T36 l0 x15_1).f2.f4) == a3) = false:=beq_eq_false_iff_ne.mpr c21;have c21b1 : (((rd_T36 l0 x15_1).f2.f4) != a3) = true:=bne_iff_ne.mpr c21;have H':=zMk H;clear H
         go_wp2
         go_roundg k1;case measure=>have:=HK1.out;omega
         case rel=>exact ⟨(wrap64 (x15_1 + 1)),(x420000_1),(x420001_1),(x420002_1),(x420003_1),(x420004_1),(x420005_1),(by first | rfl | (simp;done) | (simp [*];done)),H',⟨by have:=HK1.out;omega⟩,⟨by (with_reducible repeat (first | refine blk_drewN ?_ _ | refine blk_drew ?_ | refine blk_alloc ?_ _));refine blk_far ?_ NB419_422.out _;(with_reducible repeat (first | refine blk_drewN ?_ _ | refine blk_drew ?_ | refine blk_alloc ?_ _));refine blk_far ?_ NB419_422.out _;(with_reducible repeat (first | refine blk_drewN ?_ _ | refine blk_drew ?_ | refine blk_alloc ?_ _));refine blk_far ?_ NB419_422.out _;(with_reducible repeat (first | refine blk_drewN ?_ _ | refine blk_drew ?_ | refine blk_alloc ?_ _));refine blk_far ?_ NB419_422.out _;(with_reducible repeat (first | refine blk_drewN ?_ _ | refine blk_drew ?_ | refine blk_alloc ?_ _));refine blk_far ?_ NB419_422.out _;(with_reducible repeat (first | refine blk_drewN ?_ _ | refine blk_drew ?_ | refine blk_alloc ?_ _));refine blk_far ?_ NB419_422.out _;(with_reducible repeat (first | refine blk_drewN ?_ _ | refine blk_drew ?_ | refine blk_alloc ?_ _));exact BK419.out⟩,⟨hs3 HB GE419 GE421 GE422⟩⟩
        rw [if_neg c11] at H;have c11b0 : (((rd_T36 l0 x15_1).f2.f3) == a2) = false:=beq_eq_false_iff_ne.mpr c11;have c11b1 : (((rd_T36 l0 x15_1).f2.f3) != a2) = true:=bne_iff_ne.mpr c11;have H':=zMk H;clear H
        go_wp2
        go_roundg k1;case measure=>have:=HK1.out;omega
        case rel=>exact ⟨(wrap64 (x15_1 + 1)),(x420000_1),(x420001_1),(x420002_1),(x420003_1),(x420004_1),(x420005_1),(by first | rfl | (simp;done) | (simp [*];done)),H',⟨by have:=HK1.out;omega⟩,⟨by (with_reducible repeat (first | refine blk_drewN ?_ _ | refine blk_drew ?_ | refine blk_alloc ?_ _));refine blk_far ?_ NB419_422.out _;(with_reducible repeat (first | refine blk_drewN ?_ _ | refine blk_drew ?_ | refine blk_alloc ?_ _));refine blk_far ?_ NB419_422.out _;(with_reducible repeat (first | refine blk_drewN ?_ _ | refine blk_drew ?_ | refine blk_alloc ?_ _));refine blk_far ?_ NB419_422.out _;(with_reducible repeat (first | refine blk_drewN ?_ _ | refine blk_drew ?_ | refine blk_alloc ?_ _));refine blk_far ?_ NB419_422.out _;(with_reducible repeat (first | refine blk_drewN ?_ _ | refine blk_drew ?_ | refine blk_alloc ?_ _));refine blk_far ?_ NB419_422.out _;(with_reducible repeat (first | refine blk_drewN ?_ _ | refine blk_drew ?_ | refine blk_alloc ?_ _));refine blk_far ?_ NB419_422.out _;(with_reducible repeat (first | refine blk_drewN ?_ _ | refine blk_drew ?_ | refine blk_alloc ?_ _));exact BK419.out⟩,⟨hs3 HB GE419 GE421 GE422⟩⟩
       rw [if_neg c10] at H;have c10b0 : (((rd_T36 l0 x15_1).f2.f2) == a1) = false:=beq_eq_false_iff_ne.mpr c10;have c10b1 : (((rd_T36 l0 x15_1).f2.f2) != a1) = true:=bne_iff_ne.mpr c10;have H':=zMk H;clear H
       go_wp2
       go_roundg k1;case measure=>have:=HK1.out;omega
       case rel=>exact ⟨(wrap64 (x15_1 + 1)),(x420000_1),(x420001_1),(x420002_1),(x420003_1),(x420004_1),(x420005_1),(by first | rfl | (simp;done) | (simp [*];done)),H',⟨by have:=HK1.out;omega⟩,⟨by (with_reducible repeat (first | refine blk_drewN ?_ _ | refine blk_drew ?_ | refine blk_alloc ?_ _));refine blk_far ?_ NB419_422.out _;(with_reducible repeat (first | refine blk_drewN ?_ _ | refine blk_drew ?_ | refine blk_alloc ?_ _));refine blk_far ?_ NB419_422.out _;(with_reducible repeat (first | refine blk_drewN ?_ _ | refine blk_drew ?_ | refine blk_alloc ?_ _));refine blk_far ?_ NB419_422.out _;(with_reducible repeat (first | refine blk_drewN ?_ _ | refine blk_drew ?_ | refine blk_alloc ?_ _));refine blk_far ?_ NB419_422.out _;(with_reducible repeat (first | refine blk_drewN ?_ _ | refine blk_drew ?_ | refine blk_alloc ?_ _));refine blk_far ?_ NB419_422.out _;(with_reducible repeat (first | refine blk_drewN ?_ _ | refine blk_drew ?_ | refine blk_alloc ?_ _));refine blk_far ?_ NB419_422.out _;(with_reducible repeat (first | refine blk_drewN ?_ _ | refine blk_drew ?_ | refine blk_alloc ?_ _));exact BK419.out⟩,⟨hs3 HB GE419 GE421 GE422⟩⟩
      rw [if_neg c9] at H;have c9b0 : (((rd_T36 l0 x15_1).f2.f0) == 2) = false:=beq_eq_false_iff_ne.mpr c9;have c9b1 : (((rd_T36 l0 x15_1).f2.f0) != 2) = true:=bne_iff_ne.mpr c9;have H':=zMk H;clear H
      go_wp2
      go_roundg k1;case measure=>have:=HK1.out;omega
      case rel=>exact ⟨(wrap64 (x15_1 + 1)),(x420000_1),(x420001_1),(x420002_1),(x420003_1),(x420004_1),(x420005_1),(by first | rfl | (simp;done) | (simp [*];done)),H',⟨by have:=HK1.out;omega⟩,⟨by (with_reducible repeat (first | refine blk_drewN ?_ _ | refine blk_drew ?_ | refine blk_alloc ?_ _));refine blk_far ?_ NB419_422.out _;(with_reducible repeat (first | refine blk_drewN ?_ _ | refine blk_drew ?_ | refine blk_alloc ?_ _));refine blk_far ?_ NB419_422.out _;(with_reducible repeat (first | refine blk_drewN ?_ _ | refine blk_drew ?_ | refine blk_alloc ?_ _));refine blk_far ?_ NB419_422.out _;(with_reducible repeat (first | refine blk_drewN ?_ _ | refine blk_drew ?_ | refine blk_alloc ?_ _));refine blk_far ?_ NB419_422.out _;(with_reducible repeat (first | refine blk_drewN ?_ _ | refine blk_drew ?_ | refine blk_alloc ?_ _));refine blk_far ?_ NB419_422.out _;(with_reducible repeat (first | refine blk_drewN ?_ _ | refine blk_drew ?_ | refine blk_alloc ?_ _));refine blk_far ?_ NB419_422.out _;(with_reducible repeat (first | refine blk_drewN ?_ _ | refine blk_drew ?_ | refine blk_alloc ?_ _));exact BK419.out⟩,⟨hs3 HB GE419 GE421 GE422⟩⟩
     rw [if_neg c8] at H;exact absurd H (by simp)
    rw [if_neg c7] at H;exact absurd H (by simp)
   rw [if_neg c6] at H;have c6b0 : decide (x15_1 < (l0.length : Int)) = false:=decide_eq_false c6;clear c6;simp only [Option.some.injEq,Prod.mk.injEq] at H;obtain ⟨rfl,rfl,rfl,rfl,rfl,rfl,rfl⟩:=H;have hcz58_0 : wr.cell? ⟨gb419,0,none⟩ = some (.int .i64 x420000_1):=(zCl BK419.out 0).trans rfl;have hcz58_1 : wr.cell? ⟨gb419,1,none⟩ = some (.int .i64 x420001_1):=(zCl BK419.out 1).trans rfl;have hcz58_2 : wr.cell? ⟨gb419,2,none⟩ = some (.int .i64 x420002_1):=(zCl BK419.out 2).trans rfl;have hcz58_3 : wr.cell? ⟨gb419,3,none⟩ = some (.int .i64 x420003_1):=(zCl BK419.out 3).trans rfl;have hcz58_4 : wr.cell? ⟨gb419,4,none⟩ = some (.int .i64 x420004_1):=(zCl BK419.out 4).trans rfl;have hcz58_5 : wr.cell? ⟨gb419,5,none⟩ = some (.string x420005_1):=(zCl BK419.out 5).trans rfl;have hfz58_0:=zFr BK419.out 0;have hfz58_1:=zFr BK419.out 1;have hfz58_2:=zFr BK419.out 2;have hfz58_3:=zFr BK419.out 3;have hfz58_4:=zFr BK419.out 4;have hfz58_5:=zFr BK419.out 5
   go_wp2
   refine bodyPost_ret (results_ct rfl _ _ gb419 33 #[.int .i64 0,.int .i64 0,.int .i64 0,.int .i64 0,.int .i64 0,.string (⟨#[]⟩ : ByteArray)] (0,0) _ rfl (by (with_reducible repeat (first | refine blk_drewN ?_ _ | refine blk_drew ?_ | refine blk_alloc ?_ _));refine blk_put (cs:=#[.int .i64 0,.int .i64 0,.int .i64 0,.int .i64 0,.int .i64 0,.string x420005_1]) ?_ 5 _ rfl;(with_reducible repeat (first | refine blk_drewN ?_ _ | refine blk_drew ?_ | refine blk_alloc ?_ _));refine blk_put (cs:=#[.int .i64 0,.int .i64 0,.int .i64 0,.int .i64 0,.int .i64 x420004_1,.string x420005_1]) ?_ 4 _ rfl;(with_reducible repeat (first | refine blk_drewN ?_ _ | refine blk_drew ?_ | refine blk_alloc ?_ _));refine blk_put (cs:=#[.int .i64 0,.int .i64 0,.int .i64 0,.int .i64 x420003_1,.int .i64 x420004_1,.string x420005_1]) ?_ 3 _ rfl;(with_reducible repeat (first | refine blk_drewN ?_ _ | refine blk_drew ?_ | refine blk_alloc ?_ _));refine blk_put (cs:=#[.int .i64 0,.int .i64 0,.int .i64 x420002_1,.int .i64 x420003_1,.int .i64 x420004_1,.string x420005_1]) ?_ 2 _ rfl;(with_reducible repeat (first | refine blk_drewN ?_ _ | refine blk_drew ?_ | refine blk_alloc ?_ _));refine blk_put (cs:=#[.int .i64 0,.int .i64 x420001_1,.int .i64 x420002_1,.int .i64 x420003_1,.int .i64 x420004_1,.string x420005_1]) ?_ 1 _ rfl;(with_reducible repeat (first | refine blk_drewN ?_ _ | refine blk_drew ?_ | refine blk_alloc ?_ _));refine blk_put (cs:=#[.int .i64 x420000_1,.int .i64 x420001_1,.int .i64 x420002_1,.int .i64 x420003_1,.int .i64 x420004_1,.string x420005_1]) ?_ 0 _ rfl;(with_reducible repeat (first | refine blk_drewN ?_ _ | refine blk_drew ?_ | refine blk_alloc ?_ _));exact BK419.out) Try.underlying33 rfl (by kernel_rfl)) rfl ?_;exact ⟨by first | rfl | (simp [errW_none,errW_some] <;> rfl) | (simp [*,errW_none,errW_some] <;> rfl),hs1 HB GE419⟩
def impl_in.f (a0 : Int) (a1 : Int) (a2 : Int) : Option (Bool):=if a0 ≥ a1 then (some (decide (a0 ≤ a2))) else (some false)
set_option maxHeartbeats 8000000 in
set_option maxRecDepth 100000 in
theorem impl_in.calls (a0 : Int) (a1 : Int) (a2 : Int) (r : Bool) (w : World) (h : impl_in.f a0 a1 a2 = some r) :
  Calls Try.prog 32 #[.int .i64 a0,.int .i64 a1,.int .i64 a2] w fun e w'=>e = .returned (.bool r) ∧ Drawn0 w w':=by
 have H : (if a0 ≥ a1 then (some (decide (a0 ≤ a2))) else (some false)) = some r:=h;clear h
 by_cases c4 : a0 ≥ a1
 ·rw [if_pos c4] at H;have c4b0 : decide (a1 ≤ a0) = true:=decide_eq_true c4;clear c4;obtain rfl:=Option.some.inj H
  go_enter Try.func32,Try.ntmps32
  go_wp2
  go_ret
  exact ⟨by first | rfl | (simp;done) | (simp [*];done),by repeat (first | exact Drawn0.refl _ | apply Drawn0.step)⟩
 rw [if_neg c4] at H;have c4b0 : decide (a1 ≤ a0) = false:=decide_eq_false c4;clear c4;obtain rfl:=Option.some.inj H
 go_enter Try.func32,Try.ntmps32
 go_wp2
 go_ret
 exact ⟨by first | rfl | (simp;done) | (simp [*];done),by repeat (first | exact Drawn0.refl _ | apply Drawn0.step)⟩
def impl_RecOk.j0 : Nat → Bool → Int → Int → Int → Int → Option (Bool)
 | 0,_,_,_,_,_=>none
 | k + 1,x32,x203000,x203001,x203002,x203003=>if x32 = true then (some false) else (if x203000 = 2 then ((impl_in.f x203002 0 9).bind fun t205=>(some t205)) else (if x203000 = 3 then (some (x203002 == 0)) else (if x203000 = 4 then ((impl_in.f x203002 0 15).bind fun t206=>(if t206 = true then ((impl_in.f x203003 1 1000000000).bind fun t207=>(some t207)) else (some false))) else (if x203000 = 5 then ((impl_in.f x203002 0 15).bind fun t208=>(some t208)) else (some false)))))
def impl_RecOk.f (k : Nat) (a0_0 : Int) (a0_1 : Int) (a0_2 : Int) (a0_3 : Int) : Option (Bool):=if a0_0 = 1 then (if a0_1 = 0 then ((impl_in.f a0_2 0 1000000000).bind fun t203=>(if t203 = true then (some (a0_3 == 0)) else (some false))) else (some false)) else ((impl_in.f a0_1 1 9).bind fun t204=>(if t204 = true then (if a0_0 = 4 then (impl_RecOk.j0 k false a0_0 a0_1 a0_2 a0_3) else (impl_RecOk.j0 k (a0_3 != 0) a0_0 a0_1 a0_2 a0_3)) else (impl_RecOk.j0 k true a0_0 a0_1 a0_2 a0_3)))
theorem impl_RecOk.mono_l : ∀ k,(∀ y0 y1 y2 y3 y4,LeO (impl_RecOk.j0 k y0 y1 y2 y3 y4) (impl_RecOk.j0 (k + 1) y0 y1 y2 y3 y4))
 | 0=>fun _ _ _ _ _ r h=>by simp [impl_RecOk.j0] at h
 | k + 1=>by
  have ih0:=impl_RecOk.mono_l k;intro y0 y1 y2 y3 y4;unfold impl_RecOk.j0
  repeat' first
  | (with_reducible exact ih0 _ _ _ _ _)
  | (with_reducible exact LeO.refl _)
  | (with_reducible exact LeO.none _)
  | (with_reducible refine LeO.ite ?_ ?_)
  | (with_reducible refine LeO.bind ?_ (fun _=>?_))
  | exact ih0 _ _ _ _ _
  | exact LeO.none _
  | refine LeO.ite ?_ ?_
  | refine LeO.bind ?_ (fun _=>?_)
theorem impl_RecOk.mono : ∀ a0 a1 a2 a3 k,LeO (impl_RecOk.f k a0 a1 a2 a3) (impl_RecOk.f (k + 1) a0 a1 a2 a3):=by
 intro a0 a1 a2 a3 k;have ih0:=impl_RecOk.mono_l k;unfold impl_RecOk.f
 repeat' first
   | (with_reducible exact ih0 _ _ _ _ _)
   | (with_reducible exact LeO.refl _)
   | (with_reducible exact LeO.none _)
   | (with_reducible refine LeO.ite ?_ ?_)
   | (with_reducible refine LeO.bind ?_ (fun _=>?_))
   | exact ih0 _ _ _ _ _
   | exact LeO.none _
   | refine LeO.ite ?_ ?_
   | refine LeO.bind ?_ (fun _=>?_)
set_option maxHeartbeats 8000000 in
set_option maxRecDepth 100000 in
theorem impl_RecOk.calls (k : Nat) (a0_0 : Int) (a0_1 : Int) (a0_2 : Int) (a0_3 : Int) (r : Bool) (w : World) (h : impl_RecOk.f k a0_0 a0_1 a0_2 a0_3 = some r) :
  Calls Try.prog 49 #[.agg #[.int .i64 a0_0,.int .i64 a0_1,.int .i64 a0_2,.int .i64 a0_3]] w fun e w'=>e = .returned (.bool r) ∧ Below w.heap.size w w':=by
 have hu45:=Try.underlying45;have HB:=zMk (Below.refl w.heap.size w);have H : (if a0_0 = 1 then (if a0_1 = 0 then ((impl_in.f a0_2 0 1000000000).bind fun t203=>(if t203 = true then (some (a0_3 == 0)) else (some false))) else (some false)) else ((impl_in.f a0_1 1 9).bind fun t204=>(if t204 = true then (if a0_0 = 4 then (impl_RecOk.j0 k false a0_0 a0_1 a0_2 a0_3) else (impl_RecOk.j0 k (a0_3 != 0) a0_0 a0_1 a0_2 a0_3)) else (impl_RecOk.j0 k true a0_0 a0_1 a0_2 a0_3)))) = some r:=h;clear h
 go_enter Try.func49,Try.ntmps49
 go_upto_if 5 with (first | ((with_reducible refine gate_dst (N:=1) rfl ?_);refine box_event ?hg (N:=1) ?hd (cs:=#[.int .i64 a0_0,.int .i64 a0_1,.int .i64 a0_2,.int .i64 a0_3]) (t:=45) ?hr ?_;(case hd=>rfl);(case hg=>rfl);(case hr=>first | (go_simp;done) | (go_simp;rfl));intro gb202 hg w6 hbox hb;have n0_:=zMk (below_step (hs HB) hb);have n1_:=zMk (hbox);have n2_:=zMk ((by rw [hg];exact (below_size (hs HB)) : w.heap.size ≤ gb202));have n3_:=zMk ((by rw [hg];exact (below_size (hs HB)) : w.heap.size ≤ gb202));clear HB;have HB:=n0_;have BK202:=n1_;have GW202:=n2_;have GE202:=n3_;clear n0_ n1_ n2_ n3_;clear hb hbox hg;have hcz7_0 : w6.cell? ⟨gb202,0,none⟩ = some (.int .i64 a0_0):=(zCl BK202.out 0).trans rfl;have hcz7_1 : w6.cell? ⟨gb202,1,none⟩ = some (.int .i64 a0_1):=(zCl BK202.out 1).trans rfl;have hcz7_2 : w6.cell? ⟨gb202,2,none⟩ = some (.int .i64 a0_2):=(zCl BK202.out 2).trans rfl;have hcz7_3 : w6.cell? ⟨gb202,3,none⟩ = some (.int .i64 a0_3):=(zCl BK202.out 3).trans rfl;have hfz7_0:=zFr BK202.out 0;have hfz7_1:=zFr BK202.out 1;have hfz7_2:=zFr BK202.out 2;have hfz7_3:=zFr BK202.out 3))
 (try simp only [Act.put,zS1,zS2,zS3])
 by_cases c2 : a0_0 = 1
 ·rw [if_pos c2] at H;have c2b0 : (a0_0 == 1) = true:=beq_iff_eq.mpr c2;have c2b1 : (a0_0 != 1) = false:=bne_eq_false_iff_eq.mpr c2;clear c2
  (first | rw [c2b0] | rw [c2b1] | (simp only [i64_w,i32_w];rw [c2b0]) | skip)
  by_cases c3 : a0_1 = 0
  ·rw [if_pos c3] at H;have c3b0 : (a0_1 == 0) = true:=beq_iff_eq.mpr c3;have c3b1 : (a0_1 != 0) = false:=bne_eq_false_iff_eq.mpr c3;clear c3;replace H:=Option.bind_eq_some_iff.mp H;obtain ⟨t203,A40,H⟩:=H;replace H : (if t203 = true then (some (a0_3 == 0)) else (some false)) = some r:=H;have A4:=zMk A40;clear A40
   by_cases c5 : t203 = true
   ·subst c5;have H1 : (some (a0_3 == 0)) = some r:=by rw [if_pos rfl] at H;exact H
    clear H;have H:=H1;clear H1;obtain rfl:=Option.some.inj H;go_wp2_with (first | (go_at_call 32;(with_reducible refine (impl_in.calls a0_2 0 1000000000 true _ A4.out).mono ?_);rintro e w' ⟨rfl,⟨nd,rfl⟩⟩))
    go_ret
    exact ⟨by first | rfl | (simp [errW_none,errW_some] <;> rfl) | (simp [*,errW_none,errW_some] <;> rfl),hs1 HB GE202⟩
   replace c5:=Bool.eq_false_iff.mpr c5;subst c5;have H1 : (some false) = some r:=by rw [if_neg (show ¬ (false = true) by decide)] at H;exact H
   clear H;have H:=H1;clear H1;obtain rfl:=Option.some.inj H;go_wp2_with (first | (go_at_call 32;(with_reducible refine (impl_in.calls a0_2 0 1000000000 false _ A4.out).mono ?_);rintro e w' ⟨rfl,⟨nd,rfl⟩⟩))
   go_ret
   exact ⟨by first | rfl | (simp [errW_none,errW_some] <;> rfl) | (simp [*,errW_none,errW_some] <;> rfl),hs1 HB GE202⟩
  rw [if_neg c3] at H;have c3b0 : (a0_1 == 0) = false:=beq_eq_false_iff_ne.mpr c3;have c3b1 : (a0_1 != 0) = true:=bne_iff_ne.mpr c3;obtain rfl:=Option.some.inj H
  go_wp2
  go_ret
  exact ⟨by first | rfl | (simp [errW_none,errW_some] <;> rfl) | (simp [*,errW_none,errW_some] <;> rfl),hs1 HB GE202⟩
 rw [if_neg c2] at H;have c2b0 : (a0_0 == 1) = false:=beq_eq_false_iff_ne.mpr c2;have c2b1 : (a0_0 != 1) = true:=bne_iff_ne.mpr c2
 (first | rw [c2b0] | rw [c2b1] | (simp only [i64_w,i32_w];rw [c2b0]) | skip)
 have HC12:=zMk H;clear H;go_upto_region 3 with (fail)
 (try simp only [Act.put,zS1,zS2,zS3])
 go_cut [32] (fun v32 wc=>∃ (kq : Nat) (x32_11 : Bool),v32 = .bool x32_11 ∧ Aside0 (impl_RecOk.j0 kq x32_11 a0_0 a0_1 a0_2 a0_3 = some r) ∧ Aside0 (kq ≤ k) ∧ Aside0 (wc.heap[gb202]? = some (.cells #[.int .i64 a0_0,.int .i64 a0_1,.int .i64 a0_2,.int .i64 a0_3] 45 (0,0))) ∧ Aside0 (Below w.heap.size w wc))
 case first =>
  have H:=HC12.out;clear HC12;replace H:=Option.bind_eq_some_iff.mp H;obtain ⟨t204,A150,H⟩:=H;replace H : (if t204 = true then (if a0_0 = 4 then (impl_RecOk.j0 k false a0_0 a0_1 a0_2 a0_3) else (impl_RecOk.j0 k (a0_3 != 0) a0_0 a0_1 a0_2 a0_3)) else (impl_RecOk.j0 k true a0_0 a0_1 a0_2 a0_3)) = some r:=H;have A15:=zMk A150;clear A150
  by_cases c16 : t204 = true
  ·subst c16;have H1 : (if a0_0 = 4 then (impl_RecOk.j0 k false a0_0 a0_1 a0_2 a0_3) else (impl_RecOk.j0 k (a0_3 != 0) a0_0 a0_1 a0_2 a0_3)) = some r:=by rw [if_pos rfl] at H;exact H
   clear H;have H:=H1;clear H1
   by_cases c17 : a0_0 = 4
   ·rw [if_pos c17] at H;have c17b0 : (a0_0 == 4) = true:=beq_iff_eq.mpr c17;have c17b1 : (a0_0 != 4) = false:=bne_eq_false_iff_eq.mpr c17;clear c17
    (first | rw [c17b0] | (simp only [i64_w,i32_w];rw [c17b0]) | skip)
    have H':=zMk H;clear H;have hcz18_0 : w6.cell? ⟨gb202,0,none⟩ = some (.int .i64 a0_0):=(zCl BK202.out 0).trans rfl;have hcz18_1 : w6.cell? ⟨gb202,1,none⟩ = some (.int .i64 a0_1):=(zCl BK202.out 1).trans rfl;have hcz18_2 : w6.cell? ⟨gb202,2,none⟩ = some (.int .i64 a0_2):=(zCl BK202.out 2).trans rfl;have hcz18_3 : w6.cell? ⟨gb202,3,none⟩ = some (.int .i64 a0_3):=(zCl BK202.out 3).trans rfl;have hfz18_0:=zFr BK202.out 0;have hfz18_1:=zFr BK202.out 1;have hfz18_2:=zFr BK202.out 2;have hfz18_3:=zFr BK202.out 3;go_wp2_with (first | ((with_reducible refine gate_callee (f:=32) rfl ?_);refine goesL_ (some 21) rfl rfl Try.func32 (by kernel_rfl) rfl #[.int .i64 a0_1,.int .i64 1,.int .i64 9] rfl (by (try simp only [List.map_toArray,List.map_cons,List.map_nil]);first | done | rfl | (simp only [List.length_drop,List.length_take];rfl)) ?_;(with_reducible refine (impl_in.calls a0_1 1 9 true _ A15.out).mono ?_);rintro e w' ⟨rfl,⟨nd,rfl⟩⟩;refine ⟨_,rfl,?_⟩))
    go_meet
    case rel=>exact ⟨_,(false),(by first | rfl | (simp;done) | (simp [*];done)),H',⟨by first | omega | exact Nat.le_refl _⟩,⟨bs BK202⟩,⟨hs1 HB GE202⟩⟩
   rw [if_neg c17] at H;have c17b0 : (a0_0 == 4) = false:=beq_eq_false_iff_ne.mpr c17;have c17b1 : (a0_0 != 4) = true:=bne_iff_ne.mpr c17
   (first | rw [c17b0] | (simp only [i64_w,i32_w];rw [c17b0]) | skip)
   have H':=zMk H;clear H;have hcz19_0 : w6.cell? ⟨gb202,0,none⟩ = some (.int .i64 a0_0):=(zCl BK202.out 0).trans rfl;have hcz19_1 : w6.cell? ⟨gb202,1,none⟩ = some (.int .i64 a0_1):=(zCl BK202.out 1).trans rfl;have hcz19_2 : w6.cell? ⟨gb202,2,none⟩ = some (.int .i64 a0_2):=(zCl BK202.out 2).trans rfl;have hcz19_3 : w6.cell? ⟨gb202,3,none⟩ = some (.int .i64 a0_3):=(zCl BK202.out 3).trans rfl;have hfz19_0:=zFr BK202.out 0;have hfz19_1:=zFr BK202.out 1;have hfz19_2:=zFr BK202.out 2;have hfz19_3:=zFr BK202.out 3;go_wp2_with (first | ((with_reducible refine gate_callee (f:=32) rfl ?_);refine goesL_ (some 21) rfl rfl Try.func32 (by kernel_rfl) rfl #[.int .i64 a0_1,.int .i64 1,.int .i64 9] rfl (by (try simp only [List.map_toArray,List.map_cons,List.map_nil]);first | done | rfl | (simp only [List.length_drop,List.length_take];rfl)) ?_;(with_reducible refine (impl_in.calls a0_1 1 9 true _ A15.out).mono ?_);rintro e w' ⟨rfl,⟨nd,rfl⟩⟩;refine ⟨_,rfl,?_⟩))
   go_meet
   case rel=>exact ⟨_,((a0_3 != 0)),(by first | rfl | (simp;done) | (simp [*];done)),H',⟨by first | omega | exact Nat.le_refl _⟩,⟨bs BK202⟩,⟨hs1 HB GE202⟩⟩
  replace c16:=Bool.eq_false_iff.mpr c16;subst c16;have H1 : (impl_RecOk.j0 k true a0_0 a0_1 a0_2 a0_3) = some r:=by rw [if_neg (show ¬ (false = true) by decide)] at H;exact H
  clear H;have H:=H1;clear H1;have H':=zMk H;clear H;have hcz20_0 : w6.cell? ⟨gb202,0,none⟩ = some (.int .i64 a0_0):=(zCl BK202.out 0).trans rfl;have hcz20_1 : w6.cell? ⟨gb202,1,none⟩ = some (.int .i64 a0_1):=(zCl BK202.out 1).trans rfl;have hcz20_2 : w6.cell? ⟨gb202,2,none⟩ = some (.int .i64 a0_2):=(zCl BK202.out 2).trans rfl;have hcz20_3 : w6.cell? ⟨gb202,3,none⟩ = some (.int .i64 a0_3):=(zCl BK202.out 3).trans rfl;have hfz20_0:=zFr BK202.out 0;have hfz20_1:=zFr BK202.out 1;have hfz20_2:=zFr BK202.out 2;have hfz20_3:=zFr BK202.out 3;go_wp2_with (first | ((with_reducible refine gate_callee (f:=32) rfl ?_);refine goesL_ (some 21) rfl rfl Try.func32 (by kernel_rfl) rfl #[.int .i64 a0_1,.int .i64 1,.int .i64 9] rfl (by (try simp only [List.map_toArray,List.map_cons,List.map_nil]);first | done | rfl | (simp only [List.length_drop,List.length_take];rfl)) ?_;(with_reducible refine (impl_in.calls a0_1 1 9 false _ A15.out).mono ?_);rintro e w' ⟨rfl,⟨nd,rfl⟩⟩;refine ⟨_,rfl,?_⟩))
  go_meet
  case rel=>exact ⟨_,(true),(by first | rfl | (simp;done) | (simp [*];done)),H',⟨by first | omega | exact Nat.le_refl _⟩,⟨bs BK202⟩,⟨hs1 HB GE202⟩⟩
 case rest =>
  clear HC12
  try clear c1
  try clear c2
  try clear c2b0
  try clear c2b1
  try clear p2
  try clear c3
  try clear c3b0
  try clear c3b1
  try clear c4
  try clear c5
  try clear c16
  try clear c17
  try clear c17b0
  try clear c17b1
  try clear hcz11_0
  try clear hcz11_1
  try clear hcz11_2
  try clear hcz11_3
  try clear hcz7_0
  try clear hcz7_1
  try clear hcz7_2
  try clear hcz7_3
  try clear hcz18_0
  try clear hcz18_1
  try clear hcz18_2
  try clear hcz18_3
  try clear hcz19_0
  try clear hcz19_1
  try clear hcz19_2
  try clear hcz19_3
  try clear hcz20_0
  try clear hcz20_1
  try clear hcz20_2
  try clear hcz20_3
  try clear hcz7_0
  try clear hcz7_1
  try clear hcz7_2
  try clear hcz7_3
  try clear hcz9_0
  try clear hcz9_1
  try clear hcz9_2
  try clear hcz9_3
  try clear hfz11_0
  try clear hfz11_1
  try clear hfz11_2
  try clear hfz11_3
  try clear hfz7_0
  try clear hfz7_1
  try clear hfz7_2
  try clear hfz7_3
  try clear hfz18_0
  try clear hfz18_1
  try clear hfz18_2
  try clear hfz18_3
  try clear hfz19_0
  try clear hfz19_1
  try clear hfz19_2
  try clear hfz19_3
  try clear hfz20_0
  try clear hfz20_1
  try clear hfz20_2
  try clear hfz20_3
  try clear hfz7_0
  try clear hfz7_1
  try clear hfz7_2
  try clear hfz7_3
  try clear hfz9_0
  try clear hfz9_1
  try clear hfz9_2
  try clear hfz9_3
  obtain ⟨kq,x32_11,rfl,HA,HJ11,BK202,HB⟩:=hcut;cases kq with
  | zero=>exact absurd HA.out (by simp [impl_RecOk.j0])
  | succ kj11 =>
   have H:=HA.out;clear HA;simp only [impl_RecOk.j0] at H
   by_cases c21 : x32_11 = true
   ·subst c21;have H1 : (some false) = some r:=by rw [if_pos rfl] at H;exact H
    clear H;have H:=H1;clear H1;obtain rfl:=Option.some.inj H
    go_wp2
    go_ret
    exact ⟨by first | rfl | (simp [errW_none,errW_some] <;> rfl) | (simp [*,errW_none,errW_some] <;> rfl),hs1 HB GE202⟩
   replace c21:=Bool.eq_false_iff.mpr c21;subst c21;have H1 : (if a0_0 = 2 then ((impl_in.f a0_2 0 9).bind fun t205=>(some t205)) else (if a0_0 = 3 then (some (a0_2 == 0)) else (if a0_0 = 4 then ((impl_in.f a0_2 0 15).bind fun t206=>(if t206 = true then ((impl_in.f a0_3 1 1000000000).bind fun t207=>(some t207)) else (some false))) else (if a0_0 = 5 then ((impl_in.f a0_2 0 15).bind fun t208=>(some t208)) else (some false))))) = some r:=by rw [if_neg (show ¬ (false = true) by decide)] at H;exact H
   clear H;have H:=H1;clear H1
   by_cases c22 : a0_0 = 2
   ·rw [if_pos c22] at H;have c22b0 : (a0_0 == 2) = true:=beq_iff_eq.mpr c22;have c22b1 : (a0_0 != 2) = false:=bne_eq_false_iff_eq.mpr c22;clear c22;replace H:=Option.bind_eq_some_iff.mp H;obtain ⟨t205,A230,H⟩:=H;replace H : (some t205) = some r:=H;have A23:=zMk A230;clear A230;obtain rfl:=Option.some.inj H;have hcz24_0 : wc.cell? ⟨gb202,0,none⟩ = some (.int .i64 a0_0):=(zCl BK202.out 0).trans rfl;have hcz24_1 : wc.cell? ⟨gb202,1,none⟩ = some (.int .i64 a0_1):=(zCl BK202.out 1).trans rfl;have hcz24_2 : wc.cell? ⟨gb202,2,none⟩ = some (.int .i64 a0_2):=(zCl BK202.out 2).trans rfl;have hcz24_3 : wc.cell? ⟨gb202,3,none⟩ = some (.int .i64 a0_3):=(zCl BK202.out 3).trans rfl;have hfz24_0:=zFr BK202.out 0;have hfz24_1:=zFr BK202.out 1;have hfz24_2:=zFr BK202.out 2;have hfz24_3:=zFr BK202.out 3;go_wp2_with (first | ((with_reducible refine gate_callee (f:=32) rfl ?_);refine goesL_ (some 39) rfl rfl Try.func32 (by kernel_rfl) rfl #[.int .i64 a0_2,.int .i64 0,.int .i64 9] rfl (by (try simp only [List.map_toArray,List.map_cons,List.map_nil]);first | done | rfl | (simp only [List.length_drop,List.length_take];rfl)) ?_;(with_reducible refine (impl_in.calls a0_2 0 9 t205 _ A23.out).mono ?_);rintro e w' ⟨rfl,⟨nd,rfl⟩⟩;refine ⟨_,rfl,?_⟩))
    go_ret
    exact ⟨by first | rfl | (simp [errW_none,errW_some] <;> rfl) | (simp [*,errW_none,errW_some] <;> rfl),hs1 HB GE202⟩
   rw [if_neg c22] at H;have c22b0 : (a0_0 == 2) = false:=beq_eq_false_iff_ne.mpr c22;have c22b1 : (a0_0 != 2) = true:=bne_iff_ne.mpr c22
   by_cases c25 : a0_0 = 3
   ·rw [if_pos c25] at H;have c25b0 : (a0_0 == 3) = true:=beq_iff_eq.mpr c25;have c25b1 : (a0_0 != 3) = false:=bne_eq_false_iff_eq.mpr c25;clear c25;obtain rfl:=Option.some.inj H;have hcz26_0 : wc.cell? ⟨gb202,0,none⟩ = some (.int .i64 a0_0):=(zCl BK202.out 0).trans rfl;have hcz26_1 : wc.cell? ⟨gb202,1,none⟩ = some (.int .i64 a0_1):=(zCl BK202.out 1).trans rfl;have hcz26_2 : wc.cell? ⟨gb202,2,none⟩ = some (.int .i64 a0_2):=(zCl BK202.out 2).trans rfl;have hcz26_3 : wc.cell? ⟨gb202,3,none⟩ = some (.int .i64 a0_3):=(zCl BK202.out 3).trans rfl;have hfz26_0:=zFr BK202.out 0;have hfz26_1:=zFr BK202.out 1;have hfz26_2:=zFr BK202.out 2;have hfz26_3:=zFr BK202.out 3
    go_wp2
    go_ret
    exact ⟨by first | rfl | (simp [errW_none,errW_some] <;> rfl) | (simp [*,errW_none,errW_some] <;> rfl),hs1 HB GE202⟩
   rw [if_neg c25] at H;have c25b0 : (a0_0 == 3) = false:=beq_eq_false_iff_ne.mpr c25;have c25b1 : (a0_0 != 3) = true:=bne_iff_ne.mpr c25
   by_cases c27 : a0_0 = 4
   ·rw [if_pos c27] at H;have c27b0 : (a0_0 == 4) = true:=beq_iff_eq.mpr c27;have c27b1 : (a0_0 != 4) = false:=bne_eq_false_iff_eq.mpr c27;clear c27;replace H:=Option.bind_eq_some_iff.mp H;obtain ⟨t206,A280,H⟩:=H;replace H : (if t206 = true then ((impl_in.f a0_3 1 1000000000).bind fun t207=>(some t207)) else (some false)) = some r:=H;have A28:=zMk A280;clear A280
    by_cases c29 : t206 = true
    ·subst c29;have H1 : ((impl_in.f a0_3 1 1000000000).bind fun t207=>(some t207)) = some r:=by rw [if_pos rfl] at H;exact H
     clear H;have H:=H1;clear H1;replace H:=Option.bind_eq_some_iff.mp H;obtain ⟨t207,A300,H⟩:=H;replace H : (some t207) = some r:=H;have A30:=zMk A300;clear A300;obtain rfl:=Option.some.inj H;have hcz31_0 : wc.cell? ⟨gb202,0,none⟩ = some (.int .i64 a0_0):=(zCl BK202.out 0).trans rfl;have hcz31_1 : wc.cell? ⟨gb202,1,none⟩ = some (.int .i64 a0_1):=(zCl BK202.out 1).trans rfl;have hcz31_2 : wc.cell? ⟨gb202,2,none⟩ = some (.int .i64 a0_2):=(zCl BK202.out 2).trans rfl;have hcz31_3 : wc.cell? ⟨gb202,3,none⟩ = some (.int .i64 a0_3):=(zCl BK202.out 3).trans rfl;have hfz31_0:=zFr BK202.out 0;have hfz31_1:=zFr BK202.out 1;have hfz31_2:=zFr BK202.out 2;have hfz31_3:=zFr BK202.out 3;go_wp2_with (first | ((with_reducible refine gate_callee (f:=32) rfl ?_);refine goesL_ (some 49) rfl rfl Try.func32 (by kernel_rfl) rfl #[.int .i64 a0_2,.int .i64 0,.int .i64 15] rfl (by (try simp only [List.map_toArray,List.map_cons,List.map_nil]);first | done | rfl | (simp only [List.length_drop,List.length_take];rfl)) ?_;(with_reducible refine (impl_in.calls a0_2 0 15 true _ A28.out).mono ?_);rintro e w' ⟨rfl,⟨nd,rfl⟩⟩;refine ⟨_,rfl,?_⟩) | (go_at_call 32;(with_reducible refine (impl_in.calls a0_3 1 1000000000 t207 _ A30.out).mono ?_);rintro e w' ⟨rfl,⟨nd,rfl⟩⟩))
     go_ret
     exact ⟨by first | rfl | (simp [errW_none,errW_some] <;> rfl) | (simp [*,errW_none,errW_some] <;> rfl),hs1 HB GE202⟩
    replace c29:=Bool.eq_false_iff.mpr c29;subst c29;have H1 : (some false) = some r:=by rw [if_neg (show ¬ (false = true) by decide)] at H;exact H
    clear H;have H:=H1;clear H1;obtain rfl:=Option.some.inj H;have hcz32_0 : wc.cell? ⟨gb202,0,none⟩ = some (.int .i64 a0_0):=(zCl BK202.out 0).trans rfl;have hcz32_1 : wc.cell? ⟨gb202,1,none⟩ = some (.int .i64 a0_1):=(zCl BK202.out 1).trans rfl;have hcz32_2 : wc.cell? ⟨gb202,2,none⟩ = some (.int .i64 a0_2):=(zCl BK202.out 2).trans rfl;have hcz32_3 : wc.cell? ⟨gb202,3,none⟩ = some (.int .i64 a0_3):=(zCl BK202.out 3).trans rfl;have hfz32_0:=zFr BK202.out 0;have hfz32_1:=zFr BK202.out 1;have hfz32_2:=zFr BK202.out 2;have hfz32_3:=zFr BK202.out 3;go_wp2_with (first | ((with_reducible refine gate_callee (f:=32) rfl ?_);refine goesL_ (some 49) rfl rfl Try.func32 (by kernel_rfl) rfl #[.int .i64 a0_2,.int .i64 0,.int .i64 15] rfl (by (try simp only [List.map_toArray,List.map_cons,List.map_nil]);first | done | rfl | (simp only [List.length_drop,List.length_take];rfl)) ?_;(with_reducible refine (impl_in.calls a0_2 0 15 false _ A28.out).mono ?_);rintro e w' ⟨rfl,⟨nd,rfl⟩⟩;refine ⟨_,rfl,?_⟩))
    go_ret
    exact ⟨by first | rfl | (simp [errW_none,errW_some] <;> rfl) | (simp [*,errW_none,errW_some] <;> rfl),hs1 HB GE202⟩
   rw [if_neg c27] at H;have c27b0 : (a0_0 == 4) = false:=beq_eq_false_iff_ne.mpr c27;have c27b1 : (a0_0 != 4) = true:=bne_iff_ne.mpr c27
   by_cases c33 : a0_0 = 5
   ·rw [if_pos c33] at H;have c33b0 : (a0_0 == 5) = true:=beq_iff_eq.mpr c33;have c33b1 : (a0_0 != 5) = false:=bne_eq_false_iff_eq.mpr c33;clear c33;replace H:=Option.bind_eq_some_iff.mp H;obtain ⟨t208,A340,H⟩:=H;replace H : (some t208) = some r:=H;have A34:=zMk A340;clear A340;obtain rfl:=Option.some.inj H;have hcz35_0 : wc.cell? ⟨gb202,0,none⟩ = some (.int .i64 a0_0):=(zCl BK202.out 0).trans rfl;have hcz35_1 : wc.cell? ⟨gb202,1,none⟩ = some (.int .i64 a0_1):=(zCl BK202.out 1).trans rfl;have hcz35_2 : wc.cell? ⟨gb202,2,none⟩ = some (.int .i64 a0_2):=(zCl BK202.out 2).trans rfl;have hcz35_3 : wc.cell? ⟨gb202,3,none⟩ = some (.int .i64 a0_3):=(zCl BK202.out 3).trans rfl;have hfz35_0:=zFr BK202.out 0;have hfz35_1:=zFr BK202.out 1;have hfz35_2:=zFr BK202.out 2;have hfz35_3:=zFr BK202.out 3;go_wp2_with (first | ((with_reducible refine gate_callee (f:=32) rfl ?_);refine goesL_ (some 59) rfl rfl Try.func32 (by kernel_rfl) rfl #[.int .i64 a0_2,.int .i64 0,.int .i64 15] rfl (by (try simp only [List.map_toArray,List.map_cons,List.map_nil]);first | done | rfl | (simp only [List.length_drop,List.length_take];rfl)) ?_;(with_reducible refine (impl_in.calls a0_2 0 15 t208 _ A34.out).mono ?_);rintro e w' ⟨rfl,⟨nd,rfl⟩⟩;refine ⟨_,rfl,?_⟩))
    go_ret
    exact ⟨by first | rfl | (simp [errW_none,errW_some] <;> rfl) | (simp [*,errW_none,errW_some] <;> rfl),hs1 HB GE202⟩
   rw [if_neg c33] at H;have c33b0 : (a0_0 == 5) = false:=beq_eq_false_iff_ne.mpr c33;have c33b1 : (a0_0 != 5) = true:=bne_iff_ne.mpr c33;obtain rfl:=Option.some.inj H;have hcz36_0 : wc.cell? ⟨gb202,0,none⟩ = some (.int .i64 a0_0):=(zCl BK202.out 0).trans rfl;have hcz36_1 : wc.cell? ⟨gb202,1,none⟩ = some (.int .i64 a0_1):=(zCl BK202.out 1).trans rfl;have hcz36_2 : wc.cell? ⟨gb202,2,none⟩ = some (.int .i64 a0_2):=(zCl BK202.out 2).trans rfl;have hcz36_3 : wc.cell? ⟨gb202,3,none⟩ = some (.int .i64 a0_3):=(zCl BK202.out 3).trans rfl;have hfz36_0:=zFr BK202.out 0;have hfz36_1:=zFr BK202.out 1;have hfz36_2:=zFr BK202.out 2;have hfz36_3:=zFr BK202.out 3
   go_wp2
   go_ret
   exact ⟨by first | rfl | (simp [errW_none,errW_some] <;> rfl) | (simp [*,errW_none,errW_some] <;> rfl),hs1 HB GE202⟩
mutual
def impl_ReadVar.l0 : Nat → ByteArray → Int → Int → Int → Option (Int × Int × Bool)
 | 0,_,_,_,_=>none
 | k + 1,x0,x1,x7,x8=>if x8 < 5 then (if x1 ≥ 0 then (impl_ReadVar.j1 k x0 x1 x7 x8 (decide (x1 < (wrap64 ((x0.size : Int) - x8))))) else (impl_ReadVar.j1 k x0 x1 x7 x8 false)) else (impl_ReadVar.j1 k x0 x1 x7 x8 false)
def impl_ReadVar.j1 : Nat → ByteArray → Int → Int → Int → Bool → Option (Int × Int × Bool)
 | 0,_,_,_,_,_=>none
 | k + 1,x0,x1,x7,x8,x23=>if x23 = true then (if 0 ≤ (wrap64 (x1 + x8)) then (if (wrap64 (x1 + x8)) < (x0.size : Int) then (if 0 ≤ (wrap64 (7 * x8)) then (if (wrap64 (bt x0 (wrap64 (x1 + x8)))) ≥ 128 then (impl_ReadVar.l0 k x0 x1 (wrap64 (x7 + (shl .i64 (Int.tmod (wrap64 (bt x0 (wrap64 (x1 + x8)))) 128) (wrap64 (7 * x8))))) (wrap64 (x8 + 1))) else (if (wrap64 (bt x0 (wrap64 (x1 + x8)))) = 0 then (if x8 > 0 then (some (0,0,false)) else (if (wrap64 (x7 + (shl .i64 (Int.tmod (wrap64 (bt x0 (wrap64 (x1 + x8)))) 128) (wrap64 (7 * x8))))) > 1000000000 then (some (0,0,false)) else (some (wrap64 (x7 + (shl .i64 (Int.tmod (wrap64 (bt x0 (wrap64 (x1 + x8)))) 128) (wrap64 (7 * x8)))),wrap64 ((wrap64 (x1 + x8)) + 1),true)))) else (if (wrap64 (x7 + (shl .i64 (Int.tmod (wrap64 (bt x0 (wrap64 (x1 + x8)))) 128) (wrap64 (7 * x8))))) > 1000000000 then (some (0,0,false)) else (some (wrap64 (x7 + (shl .i64 (Int.tmod (wrap64 (bt x0 (wrap64 (x1 + x8)))) 128) (wrap64 (7 * x8)))),wrap64 ((wrap64 (x1 + x8)) + 1),true))))) else (none)) else (none)) else (none)) else (some (0,0,false))
end
def impl_ReadVar.f (k : Nat) (a0 : ByteArray) (a1 : Int) : Option (Int × Int × Bool):=impl_ReadVar.l0 k a0 a1 0 0
theorem impl_ReadVar.mono_l : ∀ k,(∀ y0 y1 y2 y3,LeO (impl_ReadVar.l0 k y0 y1 y2 y3) (impl_ReadVar.l0 (k + 1) y0 y1 y2 y3)) ∧ (∀ y0 y1 y2 y3 y4,LeO (impl_ReadVar.j1 k y0 y1 y2 y3 y4) (impl_ReadVar.j1 (k + 1) y0 y1 y2 y3 y4))
 | 0=>⟨fun _ _ _ _ r h=>by simp [impl_ReadVar.l0] at h,fun _ _ _ _ _ r h=>by simp [impl_ReadVar.j1] at h⟩
 | k + 1=>by
  obtain ⟨ih0,ih1⟩:=impl_ReadVar.mono_l k;refine ⟨?_,?_⟩
  ·intro y0 y1 y2 y3;unfold impl_ReadVar.l0
   repeat' first
   | (with_reducible exact ih0 _ _ _ _)
   | (with_reducible exact ih1 _ _ _ _ _)
   | (with_reducible exact LeO.refl _)
   | (with_reducible exact LeO.none _)
   | (with_reducible refine LeO.ite ?_ ?_)
   | (with_reducible refine LeO.bind ?_ (fun _=>?_))
   | exact ih0 _ _ _ _
   | exact ih1 _ _ _ _ _
   | exact LeO.none _
   | refine LeO.ite ?_ ?_
   | refine LeO.bind ?_ (fun _=>?_)
  intro y0 y1 y2 y3 y4;unfold impl_ReadVar.j1
  repeat' first
  | (with_reducible exact ih0 _ _ _ _)
  | (with_reducible exact ih1 _ _ _ _ _)
  | (with_reducible exact LeO.refl _)
  | (with_reducible exact LeO.none _)
  | (with_reducible refine LeO.ite ?_ ?_)
  | (with_reducible refine LeO.bind ?_ (fun _=>?_))
  | exact ih0 _ _ _ _
  | exact ih1 _ _ _ _ _
  | exact LeO.none _
  | refine LeO.ite ?_ ?_
  | refine LeO.bind ?_ (fun _=>?_)
theorem impl_ReadVar.mono : ∀ a0 a1 k,LeO (impl_ReadVar.f k a0 a1) (impl_ReadVar.f (k + 1) a0 a1):=by
 intro a0 a1 k;obtain ⟨ih0,ih1⟩:=impl_ReadVar.mono_l k;unfold impl_ReadVar.f
 repeat' first
   | (with_reducible exact ih0 _ _ _ _)
   | (with_reducible exact ih1 _ _ _ _ _)
   | (with_reducible exact LeO.refl _)
   | (with_reducible exact LeO.none _)
   | (with_reducible refine LeO.ite ?_ ?_)
   | (with_reducible refine LeO.bind ?_ (fun _=>?_))
   | exact ih0 _ _ _ _
   | exact ih1 _ _ _ _ _
   | exact LeO.none _
   | refine LeO.ite ?_ ?_
   | refine LeO.bind ?_ (fun _=>?_)
set_option maxHeartbeats 8000000 in
set_option maxRecDepth 100000 in
theorem impl_ReadVar.calls (k : Nat) (a0 : ByteArray) (a1 : Int) (r1 : Int) (r2 : Int) (r3 : Bool) (w : World) (h : impl_ReadVar.f k a0 a1 = some (r1,r2,r3)) :
  Calls Try.prog 66 #[.string a0,.int .i64 a1] w fun e w'=>e = .returned (.tuple #[.int .i64 r1,.int .i64 r2,.bool r3]) ∧ Drawn0 w w':=by
 have H : (impl_ReadVar.l0 k a0 a1 0 0) = some (r1,r2,r3):=h;clear h;have H':=zMk H;clear H
 go_enter Try.func66,Try.ntmps66
 go_wp2
 go_loopg [7,8] k (fun kq v7 v8 w'=>∃ (x7_1 : Int) (x8_1 : Int),v7 = .int .i64 x7_1 ∧ v8 = .int .i64 x8_1 ∧ Aside0 (impl_ReadVar.l0 kq a0 a1 x7_1 x8_1 = some (r1,r2,r3)) ∧ Aside0 (kq ≤ k) ∧ Drawn0 w w');case atStart=>exact ⟨(0),(0),(by first | rfl | (simp;done) | (simp [*];done)),(by first | rfl | (simp;done) | (simp [*];done)),H',⟨Nat.le_refl _⟩,by repeat (first | exact Drawn0.refl _ | apply Drawn0.step)⟩
 case round =>
  clear H'
  try clear p2
  obtain ⟨x7_1,x8_1,rfl,rfl,HA,HK1,⟨m1,rfl⟩⟩:=hrel;cases gk with
  | zero=>exact absurd HA.out (by simp [impl_ReadVar.l0])
  | succ k1 =>
   have H:=HA.out;clear HA;simp only [impl_ReadVar.l0] at H;have HC3:=zMk H;clear H;go_upto_region 3 with (fail);go_cut [23] (fun v23 wc=>∃ (kq : Nat) (x23_2 : Bool),v23 = .bool x23_2 ∧ Aside0 (impl_ReadVar.j1 kq a0 a1 x7_1 x8_1 x23_2 = some (r1,r2,r3)) ∧ Aside0 (kq ≤ k1) ∧ Drawn0 w wc)
   case first =>
    have H:=HC3.out;clear HC3
    by_cases c4 : x8_1 < 5
    ·rw [if_pos c4] at H;have c4b0 : decide (x8_1 < 5) = true:=decide_eq_true c4;clear c4
     (first | rw [c4b0] | (simp only [i64_w,i32_w];rw [c4b0]) | skip)
     by_cases c5 : a1 ≥ 0
     ·rw [if_pos c5] at H;have c5b0 : decide (0 ≤ a1) = true:=decide_eq_true c5;clear c5;have H':=zMk H;clear H
      go_wp2
      go_meet
      case rel=>exact ⟨_,(decide (a1 < (wrap64 ((a0.size : Int) - x8_1)))),(by first | rfl | (simp;done) | (simp [*];done)),H',⟨by have:=HK1.out;first | omega | exact Nat.le_refl _⟩,by repeat (first | exact Drawn0.refl _ | apply Drawn0.step)⟩
     rw [if_neg c5] at H;have c5b0 : decide (0 ≤ a1) = false:=decide_eq_false c5;clear c5;have H':=zMk H;clear H
     go_wp2
     go_meet
     case rel=>exact ⟨_,(false),(by first | rfl | (simp;done) | (simp [*];done)),H',⟨by have:=HK1.out;first | omega | exact Nat.le_refl _⟩,by repeat (first | exact Drawn0.refl _ | apply Drawn0.step)⟩
    rw [if_neg c4] at H;have c4b0 : decide (x8_1 < 5) = false:=decide_eq_false c4;clear c4
    (first | rw [c4b0] | (simp only [i64_w,i32_w];rw [c4b0]) | skip)
    have H':=zMk H;clear H
    go_wp2
    go_meet
    case rel=>exact ⟨_,(false),(by first | rfl | (simp;done) | (simp [*];done)),H',⟨by have:=HK1.out;first | omega | exact Nat.le_refl _⟩,by repeat (first | exact Drawn0.refl _ | apply Drawn0.step)⟩
   case rest =>
    clear HC3
    try clear p2
    try clear c4
    try clear c4b0
    try clear c5
    try clear c5b0
    try clear p2
    obtain ⟨kq,x23_2,rfl,HA,HJ2,⟨mc2,rfl⟩⟩:=hcut;cases kq with
    | zero=>exact absurd HA.out (by simp [impl_ReadVar.j1])
    | succ kj2 =>
     have H:=HA.out;clear HA;simp only [impl_ReadVar.j1] at H
     by_cases c6 : x23_2 = true
     ·subst c6;have H1 : (if 0 ≤ (wrap64 (a1 + x8_1)) then (if (wrap64 (a1 + x8_1)) < (a0.size : Int) then (if 0 ≤ (wrap64 (7 * x8_1)) then (if (wrap64 (bt a0 (wrap64 (a1 + x8_1)))) ≥ 128 then (impl_ReadVar.l0 kj2 a0 a1 (wrap64 (x7_1 + (shl .i64 (Int.tmod (wrap64 (bt a0 (wrap64 (a1 + x8_1)))) 128) (wrap64 (7 * x8_1))))) (wrap64 (x8_1 + 1))) else (if (wrap64 (bt a0 (wrap64 (a1 + x8_1)))) = 0 then (if x8_1 > 0 then (some (0,0,false)) else (if (wrap64 (x7_1 + (shl .i64 (Int.tmod (wrap64 (bt a0 (wrap64 (a1 + x8_1)))) 128) (wrap64 (7 * x8_1))))) > 1000000000 then (some (0,0,false)) else (some (wrap64 (x7_1 + (shl .i64 (Int.tmod (wrap64 (bt a0 (wrap64 (a1 + x8_1)))) 128) (wrap64 (7 * x8_1)))),wrap64 ((wrap64 (a1 + x8_1)) + 1),true)))) else (if (wrap64 (x7_1 + (shl .i64 (Int.tmod (wrap64 (bt a0 (wrap64 (a1 + x8_1)))) 128) (wrap64 (7 * x8_1))))) > 1000000000 then (some (0,0,false)) else (some (wrap64 (x7_1 + (shl .i64 (Int.tmod (wrap64 (bt a0 (wrap64 (a1 + x8_1)))) 128) (wrap64 (7 * x8_1)))),wrap64 ((wrap64 (a1 + x8_1)) + 1),true))))) else (none)) else (none)) else (none)) = some (r1,r2,r3):=by rw [if_pos rfl] at H;exact H
      clear H;have H:=H1;clear H1;obtain ⟨ji7,hji7⟩ : ∃ j_ : Int,(wrap64 (a1 + x8_1)) = j_:=⟨_,rfl⟩;replace H : (if 0 ≤ (ji7) then (if (ji7) < (a0.size : Int) then (if 0 ≤ (wrap64 (7 * x8_1)) then (if (wrap64 (bt a0 (ji7))) ≥ 128 then (impl_ReadVar.l0 kj2 a0 a1 (wrap64 (x7_1 + (shl .i64 (Int.tmod (wrap64 (bt a0 (ji7))) 128) (wrap64 (7 * x8_1))))) (wrap64 (x8_1 + 1))) else (if (wrap64 (bt a0 (ji7))) = 0 then (if x8_1 > 0 then (some (0,0,false)) else (if (wrap64 (x7_1 + (shl .i64 (Int.tmod (wrap64 (bt a0 (ji7))) 128) (wrap64 (7 * x8_1))))) > 1000000000 then (some (0,0,false)) else (some (wrap64 (x7_1 + (shl .i64 (Int.tmod (wrap64 (bt a0 (ji7))) 128) (wrap64 (7 * x8_1)))),wrap64 ((ji7) + 1),true)))) else (if (wrap64 (x7_1 + (shl .i64 (Int.tmod (wrap64 (bt a0 (ji7))) 128) (wrap64 (7 * x8_1))))) > 1000000000 then (some (0,0,false)) else (some (wrap64 (x7_1 + (shl .i64 (Int.tmod (wrap64 (bt a0 (ji7))) 128) (wrap64 (7 * x8_1)))),wrap64 ((ji7) + 1),true))))) else (none)) else (none)) else (none)) = some (r1,r2,r3):=by first | (rw [hji7] at H;exact H) | (simp only [hji7] at H ⊢;exact H)
      have hji7w : (IntKind.i64.wrap (a1 + x8_1)) = ji7:=(i64_w _).trans hji7
      by_cases c8 : 0 ≤ (ji7)
      ·rw [if_pos c8] at H;have c8b0 : decide (0 ≤ (ji7)) = true:=decide_eq_true c8;clear c8
       by_cases c9 : (ji7) < (a0.size : Int)
       ·rw [if_pos c9] at H;have c9b0 : decide ((ji7) < (a0.size : Int)) = true:=decide_eq_true c9;clear c9;obtain ⟨ji11,hji11⟩ : ∃ j_ : Int,(wrap64 (7 * x8_1)) = j_:=⟨_,rfl⟩;replace H : (if 0 ≤ (ji11) then (if (wrap64 (bt a0 (ji7))) ≥ 128 then (impl_ReadVar.l0 kj2 a0 a1 (wrap64 (x7_1 + (shl .i64 (Int.tmod (wrap64 (bt a0 (ji7))) 128) (ji11)))) (wrap64 (x8_1 + 1))) else (if (wrap64 (bt a0 (ji7))) = 0 then (if x8_1 > 0 then (some (0,0,false)) else (if (wrap64 (x7_1 + (shl .i64 (Int.tmod (wrap64 (bt a0 (ji7))) 128) (ji11)))) > 1000000000 then (some (0,0,false)) else (some (wrap64 (x7_1 + (shl .i64 (Int.tmod (wrap64 (bt a0 (ji7))) 128) (ji11))),wrap64 ((ji7) + 1),true)))) else (if (wrap64 (x7_1 + (shl .i64 (Int.tmod (wrap64 (bt a0 (ji7))) 128) (ji11)))) > 1000000000 then (some (0,0,false)) else (some (wrap64 (x7_1 + (shl .i64 (Int.tmod (wrap64 (bt a0 (ji7))) 128) (ji11))),wrap64 ((ji7) + 1),true))))) else (none)) = some (r1,r2,r3):=by first | (rw [hji11] at H;exact H) | (simp only [hji11] at H ⊢;exact H)
        have hji11w : (IntKind.i64.wrap (7 * x8_1)) = ji11:=(i64_w _).trans hji11
        by_cases c12 : 0 ≤ (ji11)
        ·rw [if_pos c12] at H;have c12b0:=eq_true c12;have c12b1 : decide (0 ≤ (ji11)) = true:=decide_eq_true c12;clear c12;obtain ⟨ji13,hji13⟩ : ∃ j_ : Int,(shl .i64 (Int.tmod (wrap64 (bt a0 (ji7))) 128) (ji11)) = j_:=⟨_,rfl⟩;replace H : (if (wrap64 (bt a0 (ji7))) ≥ 128 then (impl_ReadVar.l0 kj2 a0 a1 (wrap64 (x7_1 + (ji13))) (wrap64 (x8_1 + 1))) else (if (wrap64 (bt a0 (ji7))) = 0 then (if x8_1 > 0 then (some (0,0,false)) else (if (wrap64 (x7_1 + (ji13))) > 1000000000 then (some (0,0,false)) else (some (wrap64 (x7_1 + (ji13)),wrap64 ((ji7) + 1),true)))) else (if (wrap64 (x7_1 + (ji13))) > 1000000000 then (some (0,0,false)) else (some (wrap64 (x7_1 + (ji13)),wrap64 ((ji7) + 1),true))))) = some (r1,r2,r3):=by first | (rw [hji13] at H;exact H) | (simp only [hji13] at H ⊢;exact H)
         have hji13_ : (IntKind.i64.wrap ((Int.tmod (wrap64 (bt a0 (ji7))) 128) * 2 ^ min (ji11).toNat 64)) = ji13:=hji13;have hji13z : (ji11) ≤ 64 → (IntKind.i64.wrap ((Int.tmod (wrap64 (bt a0 (ji7))) 128) * 2 ^ (ji11).toNat)) = ji13:=shl_small hji13;have hji13y : (wrap64 ((Int.tmod (wrap64 (bt a0 (ji7))) 128) * 2 ^ min (ji11).toNat 64)) = ji13:=(i64_w _).symm.trans hji13_;have hji13x : (ji11) ≤ 64 → (wrap64 ((Int.tmod (wrap64 (bt a0 (ji7))) 128) * 2 ^ (ji11).toNat)) = ji13:=fun h_=>(i64_w _).symm.trans (hji13z h_)
         by_cases c14 : (wrap64 (bt a0 (ji7))) ≥ 128
         ·rw [if_pos c14] at H;have c14b0 : decide (128 ≤ (wrap64 (bt a0 (ji7)))) = true:=decide_eq_true c14;clear c14;have H':=zMk H;clear H;have p10 : 0 ≤ ((ji7) : Int):=zDe (by first | (with_reducible assumption) | assumption);have q10 : (ji7) < (a0.size : Int):=zDe (by first | (with_reducible assumption) | assumption);have hx10:=bt_at a0 (ji7);replace p10:=eq_true p10;replace q10:=eq_true q10
          go_wp2
          go_roundg kj2;case measure=>have:=HK1.out;have:=HJ2.out;omega
          case rel=>exact ⟨(wrap64 (x7_1 + (ji13))),(wrap64 (x8_1 + 1)),(by first | rfl | (simp;done) | (simp only [← hji13] <;> (first | rfl | simp)) | (simp [*];done)),(by first | rfl | (simp;done) | (simp [*];done)),H',⟨by have:=HK1.out;have:=HJ2.out;omega⟩,by repeat (first | exact Drawn0.refl _ | apply Drawn0.step)⟩
         rw [if_neg c14] at H;have c14b0 : decide (128 ≤ (wrap64 (bt a0 (ji7)))) = false:=decide_eq_false c14;clear c14
         by_cases c15 : (wrap64 (bt a0 (ji7))) = 0
         ·rw [if_pos c15] at H;have c15b0 : ((wrap64 (bt a0 (ji7))) == 0) = true:=beq_iff_eq.mpr c15;have c15b1 : ((wrap64 (bt a0 (ji7))) != 0) = false:=bne_eq_false_iff_eq.mpr c15;clear c15
          by_cases c16 : x8_1 > 0
          ·rw [if_pos c16] at H;have c16b0 : decide (0 < x8_1) = true:=decide_eq_true c16;clear c16;simp only [Option.some.injEq,Prod.mk.injEq] at H;obtain ⟨rfl,rfl,rfl⟩:=H;have p10 : 0 ≤ ((ji7) : Int):=zDe (by first | (with_reducible assumption) | assumption);have q10 : (ji7) < (a0.size : Int):=zDe (by first | (with_reducible assumption) | assumption);have hx10:=bt_at a0 (ji7);replace p10:=eq_true p10;replace q10:=eq_true q10
           go_wp2
           go_ret3
           exact ⟨by first | rfl | (simp;done) | (simp only [← hji7,← hji11,← hji13] <;> (first | rfl | simp)) | (simp [*];done),by repeat (first | exact Drawn0.refl _ | apply Drawn0.step)⟩
          rw [if_neg c16] at H;have c16b0 : decide (0 < x8_1) = false:=decide_eq_false c16;clear c16
          by_cases c17 : (wrap64 (x7_1 + (ji13))) > 1000000000
          ·rw [if_pos c17] at H;have c17b0 : decide (1000000000 < (wrap64 (x7_1 + (ji13)))) = true:=decide_eq_true c17;clear c17;simp only [Option.some.injEq,Prod.mk.injEq] at H;obtain ⟨rfl,rfl,rfl⟩:=H;have p10 : 0 ≤ ((ji7) : Int):=zDe (by first | (with_reducible assumption) | assumption);have q10 : (ji7) < (a0.size : Int):=zDe (by first | (with_reducible assumption) | assumption);have hx10:=bt_at a0 (ji7);replace p10:=eq_true p10;replace q10:=eq_true q10
           go_wp2
           go_ret3
           exact ⟨by first | rfl | (simp;done) | (simp only [← hji7,← hji11,← hji13] <;> (first | rfl | simp)) | (simp [*];done),by repeat (first | exact Drawn0.refl _ | apply Drawn0.step)⟩
          rw [if_neg c17] at H;have c17b0 : decide (1000000000 < (wrap64 (x7_1 + (ji13)))) = false:=decide_eq_false c17;clear c17;simp only [Option.some.injEq,Prod.mk.injEq] at H;obtain ⟨rfl,rfl,rfl⟩:=H;have p10 : 0 ≤ ((ji7) : Int):=zDe (by first | (with_reducible assumption) | assumption);have q10 : (ji7) < (a0.size : Int):=zDe (by first | (with_reducible assumption) | assumption);have hx10:=bt_at a0 (ji7);replace p10:=eq_true p10;replace q10:=eq_true q10
          go_wp2
          go_ret3
          exact ⟨by first | rfl | (simp;done) | (simp only [← hji7,← hji11,← hji13] <;> (first | rfl | simp)) | (simp [*];done),by repeat (first | exact Drawn0.refl _ | apply Drawn0.step)⟩
         rw [if_neg c15] at H;have c15b0 : ((wrap64 (bt a0 (ji7))) == 0) = false:=beq_eq_false_iff_ne.mpr c15;have c15b1 : ((wrap64 (bt a0 (ji7))) != 0) = true:=bne_iff_ne.mpr c15
         by_cases c18 : (wrap64 (x7_1 + (ji13))) > 1000000000
         ·rw [if_pos c18] at H;have c18b0 : decide (1000000000 < (wrap64 (x7_1 + (ji13)))) = true:=decide_eq_true c18;clear c18;simp only [Option.some.injEq,Prod.mk.injEq] at H;obtain ⟨rfl,rfl,rfl⟩:=H;have p10 : 0 ≤ ((ji7) : Int):=zDe (by first | (with_reducible assumption) | assumption);have q10 : (ji7) < (a0.size : Int):=zDe (by first | (with_reducible assumption) | assumption);have hx10:=bt_at a0 (ji7);replace p10:=eq_true p10;replace q10:=eq_true q10
          go_wp2
          go_ret3
          exact ⟨by first | rfl | (simp;done) | (simp only [← hji7,← hji11,← hji13] <;> (first | rfl | simp)) | (simp [*];done),by repeat (first | exact Drawn0.refl _ | apply Drawn0.step)⟩
         rw [if_neg c18] at H;have c18b0 : decide (1000000000 < (wrap64 (x7_1 + (ji13)))) = false:=decide_eq_false c18;clear c18;simp only [Option.some.injEq,Prod.mk.injEq] at H;obtain ⟨rfl,rfl,rfl⟩:=H;have p10 : 0 ≤ ((ji7) : Int):=zDe (by first | (with_reducible assumption) | assumption);have q10 : (ji7) < (a0.size : Int):=zDe (by first | (with_reducible assumption) | assumption);have hx10:=bt_at a0 (ji7);replace p10:=eq_true p10;replace q10:=eq_true q10
         go_wp2
         go_ret3
         exact ⟨by first | rfl | (simp;done) | (simp only [← hji7,← hji11,← hji13] <;> (first | rfl | simp)) | (simp [*];done),by repeat (first | exact Drawn0.refl _ | apply Drawn0.step)⟩
        rw [if_neg c12] at H;exact absurd H (by simp)
       rw [if_neg c9] at H;exact absurd H (by simp)
      rw [if_neg c8] at H;exact absurd H (by simp)
     replace c6:=Bool.eq_false_iff.mpr c6;subst c6;have H1 : (some (0,0,false)) = some (r1,r2,r3):=by rw [if_neg (show ¬ (false = true) by decide)] at H;exact H
     clear H;have H:=H1;clear H1;simp only [Option.some.injEq,Prod.mk.injEq] at H;obtain ⟨rfl,rfl,rfl⟩:=H
     go_wp2
     go_ret3
     exact ⟨by first | rfl | (simp;done) | (simp [*];done),by repeat (first | exact Drawn0.refl _ | apply Drawn0.step)⟩
def impl_ReadRecs.l0 : Nat → ByteArray → List (S45) → Int → Option ((List (S45)) × Bool)
 | 0,_,_,_=>none
 | k + 1,x0,x4,x5=>if x5 < (x0.size : Int) then ((impl_ReadVar.f k x0 (wrap64 (x5 + 1))).bind fun bt423=>((impl_ReadVar.f k x0 bt423.2.1).bind fun bt426=>(if 0 ≤ x5 then (if bt423.2.2 = true then (if bt426.2.2 = true then ((impl_RecOk.f k (wrap64 (Int.tdiv (wrap64 (bt x0 x5)) 16)) (Int.tmod (wrap64 (bt x0 x5)) 16) bt423.1 bt426.1).bind fun t430=>(if t430 = true then (if x4.length < 4398046511104 then (impl_ReadRecs.l0 k x0 (x4 ++ [(⟨wrap64 (Int.tdiv (wrap64 (bt x0 x5)) 16),Int.tmod (wrap64 (bt x0 x5)) 16,bt423.1,bt426.1⟩ : S45)]) bt426.2.1) else (none)) else (some (([] : List (S45)),false)))) else (some (([] : List (S45)),false))) else (some (([] : List (S45)),false))) else (none)))) else (some (x4,true))
def impl_ReadRecs.f (k : Nat) (a0 : ByteArray) : Option ((List (S45)) × Bool):=impl_ReadRecs.l0 k a0 ([] : List (S45)) 0
theorem impl_ReadRecs.mono_l : ∀ k,(∀ y0 y1 y2,LeO (impl_ReadRecs.l0 k y0 y1 y2) (impl_ReadRecs.l0 (k + 1) y0 y1 y2))
 | 0=>fun _ _ _ r h=>by simp [impl_ReadRecs.l0] at h
 | k + 1=>by
  have ih0:=impl_ReadRecs.mono_l k;intro y0 y1 y2;unfold impl_ReadRecs.l0
  repeat' first
  | (with_reducible exact ih0 _ _ _)
  | (with_reducible exact impl_ReadVar.mono _ _ _)
  | (with_reducible exact impl_RecOk.mono _ _ _ _ _)
  | (with_reducible exact LeO.refl _)
  | (with_reducible exact LeO.none _)
  | (with_reducible refine LeO.ite ?_ ?_)
  | (with_reducible refine LeO.bind ?_ (fun _=>?_))
  | exact ih0 _ _ _
  | exact impl_ReadVar.mono _ _ _
  | exact impl_RecOk.mono _ _ _ _ _
  | exact LeO.none _
  | refine LeO.ite ?_ ?_
  | refine LeO.bind ?_ (fun _=>?_)
theorem impl_ReadRecs.mono : ∀ a0 k,LeO (impl_ReadRecs.f k a0) (impl_ReadRecs.f (k + 1) a0):=by
 intro a0 k;have ih0:=impl_ReadRecs.mono_l k;unfold impl_ReadRecs.f
 repeat' first
   | (with_reducible exact ih0 _ _ _)
   | (with_reducible exact impl_ReadVar.mono _ _ _)
   | (with_reducible exact impl_RecOk.mono _ _ _ _ _)
   | (with_reducible exact LeO.refl _)
   | (with_reducible exact LeO.none _)
   | (with_reducible refine LeO.ite ?_ ?_)
   | (with_reducible refine LeO.bind ?_ (fun _=>?_))
   | exact ih0 _ _ _
   | exact impl_ReadVar.mono _ _ _
   | exact impl_RecOk.mono _ _ _ _ _
   | exact LeO.none _
   | refine LeO.ite ?_ ?_
   | refine LeO.bind ?_ (fun _=>?_)
def impl_ReadRecs.T6 : Bool × List (List Nat × List Nat):=(true,[([],[]),([],[]),([0,1],[0,1]),([2],[2]),([3],[3]),([],[]),([],[]),([5,6],[5,6]),([7],[7]),([8],[8]),([],[]),([],[]),([4,9,10,11],[4,9,10,11]),([],[]),([13,12,0,1,2,3,4,5,6,7,8,9,10,11,12,13],[12,13])])
def impl_ReadRecs.B6 : List Nat:=[0,0,3,7,15,0,0,96,224,480,0,0,4095,0,16383]
theorem impl_ReadRecs.tab6 : rtab .any (opsOf Try.f56 6) = impl_ReadRecs.T6:=by kernel_rfl
theorem impl_ReadRecs.bits6 : waitsOk impl_ReadRecs.T6.2 impl_ReadRecs.B6 = true:=by kernel_rfl
set_option maxHeartbeats 8000000 in
set_option maxRecDepth 100000 in
theorem impl_ReadRecs.calls (k : Nat) (a0 : ByteArray) (r1 : List (S45)) (r2 : Bool) (w : World) (h : impl_ReadRecs.f k a0 = some (r1,r2)) :
  Calls Try.prog 56 #[.string a0] w fun e w'=>∃ v0_ : Value,e = .returned (.tuple #[v0_,.bool r2]) ∧ Kd.R k45 45 w' w.heap.size (fun _=>True) v0_ r1 ∧ Below w.heap.size w w':=by
 have hu45:=Try.underlying45;have HB:=zMk (Below.refl w.heap.size w);have H : (impl_ReadRecs.l0 k a0 ([] : List (S45)) 0) = some (r1,r2):=h;clear h;have H':=zMk H;clear H
 go_enter Try.func56,Try.ntmps56
 go_wp2
 go_loopg [4,5] k (fun kq v4 v5 w'=>∃ (x4_1 : List (S45)) (x5_1 : Int),v5 = .int .i64 x5_1 ∧ Aside0 (impl_ReadRecs.l0 kq a0 x4_1 x5_1 = some (r1,r2)) ∧ Aside0 (kq ≤ k) ∧ Aside0 (Kd.R k45 45 w' w.heap.size (fun _=>True) v4 x4_1) ∧ Aside0 (Below w.heap.size w w'));case atStart=>exact ⟨(([] : List (S45))),(0),(by first | rfl | (simp;done) | (simp [*];done)),H',⟨Nat.le_refl _⟩,⟨by first | exact Kd.R_nil _ _ _ _ _ | exact Kd.N_nil _ _ _ _ _ | exact Kd.V_nil _ _ _ _ _ | exact Kd.Q_nil _ _ _ _ _ | exact Kd.S_nil _ _ _ _ _⟩,⟨hs HB⟩⟩
 case round =>
  clear H';obtain ⟨x4_1,x5_1,rfl,HA,HK1,HO_4,HB⟩:=hrel;cases gk with
  | zero=>exact absurd HA.out (by simp [impl_ReadRecs.l0])
  | succ k1 =>
   have H:=HA.out;clear HA;simp only [impl_ReadRecs.l0] at H
   by_cases c2 : x5_1 < (a0.size : Int)
   ·rw [if_pos c2] at H;have c2b0 : decide (x5_1 < (a0.size : Int)) = true:=decide_eq_true c2;clear c2;replace H:=Option.bind_eq_some_iff.mp H;obtain ⟨⟨t423,t424,t425⟩,A30,H⟩:=H;replace H : ((impl_ReadVar.f k1 a0 t424).bind fun bt426=>(if 0 ≤ x5_1 then (if t425 = true then (if bt426.2.2 = true then ((impl_RecOk.f k1 (wrap64 (Int.tdiv (wrap64 (bt a0 x5_1)) 16)) (Int.tmod (wrap64 (bt a0 x5_1)) 16) t423 bt426.1).bind fun t430=>(if t430 = true then (if x4_1.length < 4398046511104 then (impl_ReadRecs.l0 k1 a0 (x4_1 ++ [(⟨wrap64 (Int.tdiv (wrap64 (bt a0 x5_1)) 16),Int.tmod (wrap64 (bt a0 x5_1)) 16,t423,bt426.1⟩ : S45)]) bt426.2.1) else (none)) else (some (([] : List (S45)),false)))) else (some (([] : List (S45)),false))) else (some (([] : List (S45)),false))) else (none))) = some (r1,r2):=H;have A3:=zMk A30;clear A30;replace H:=Option.bind_eq_some_iff.mp H;obtain ⟨⟨t426,t427,t428⟩,A40,H⟩:=H;replace H : (if 0 ≤ x5_1 then (if t425 = true then (if t428 = true then ((impl_RecOk.f k1 (wrap64 (Int.tdiv (wrap64 (bt a0 x5_1)) 16)) (Int.tmod (wrap64 (bt a0 x5_1)) 16) t423 t426).bind fun t430=>(if t430 = true then (if x4_1.length < 4398046511104 then (impl_ReadRecs.l0 k1 a0 (x4_1 ++ [(⟨wrap64 (Int.tdiv (wrap64 (bt a0 x5_1)) 16),Int.tmod (wrap64 (bt a0 x5_1)) 16,t423,t426⟩ : S45)]) t427) else (none)) else (some (([] : List (S45)),false)))) else (some (([] : List (S45)),false))) else (some (([] : List (S45)),false))) else (none)) = some (r1,r2):=H;have A4:=zMk A40;clear A40
    by_cases c5 : 0 ≤ x5_1
    ·rw [if_pos c5] at H;have c5b0 : decide (0 ≤ x5_1) = true:=decide_eq_true c5;clear c5;go_upto_region 5 with (first | ((with_reducible refine gate_callee (f:=66) rfl ?_);refine goesL_ (some 21) rfl rfl Try.func66 (by kernel_rfl) rfl #[.string a0,.int .i64 (wrap64 (x5_1 + 1))] rfl (by (try simp only [List.map_toArray,List.map_cons,List.map_nil]);first | done | rfl | (simp only [List.length_drop,List.length_take];rfl)) ?_;(with_reducible refine (impl_ReadVar.calls k1 a0 (wrap64 (x5_1 + 1)) t423 t424 t425 _ A3.out).mono ?_);rintro e w' ⟨rfl,⟨nd,rfl⟩⟩;refine ⟨_,rfl,?_⟩;(try (rw [drewN_self wr];generalize hq_ : World.drewN wr _ = wr;have n0_ : Aside0 (Kd.R k45 45 wr w.heap.size (fun _=>True) u4 x4_1):=⟨by rw [← hq_];exact (rs HO_4)⟩;have n1_ : Aside0 (Below w.heap.size w wr):=⟨by rw [← hq_];exact (hs HB)⟩;clear HO_4 HB hq_;have HO_4:=n0_;have HB:=n1_;clear n0_ n1_))))
     (try simp only [Act.put,zS1,zS2,zS3])
     by_cases c8 : t425 = true
     ·subst c8;have H1 : (if t428 = true then ((impl_RecOk.f k1 (wrap64 (Int.tdiv (wrap64 (bt a0 x5_1)) 16)) (Int.tmod (wrap64 (bt a0 x5_1)) 16) t423 t426).bind fun t430=>(if t430 = true then (if x4_1.length < 4398046511104 then (impl_ReadRecs.l0 k1 a0 (x4_1 ++ [(⟨wrap64 (Int.tdiv (wrap64 (bt a0 x5_1)) 16),Int.tmod (wrap64 (bt a0 x5_1)) 16,t423,t426⟩ : S45)]) t427) else (none)) else (some (([] : List (S45)),false)))) else (some (([] : List (S45)),false))) = some (r1,r2):=by rw [if_pos rfl] at H;exact H
      clear H;have H:=H1;clear H1
      try go_wp2_with (first | ((with_reducible refine gate_callee (f:=66) rfl ?_);refine goesL_ (some 28) rfl rfl Try.func66 (by kernel_rfl) rfl #[.string a0,.int .i64 t424] rfl (by (try simp only [List.map_toArray,List.map_cons,List.map_nil]);first | done | rfl | (simp only [List.length_drop,List.length_take];rfl)) ?_;(with_reducible refine (impl_ReadVar.calls k1 a0 t424 t426 t427 t428 _ A4.out).mono ?_);rintro e w' ⟨rfl,⟨nd,rfl⟩⟩;refine ⟨_,rfl,?_⟩;(try (rw [drewN_self wr];generalize hq_ : World.drewN wr _ = wr;have n0_ : Aside0 (Kd.R k45 45 wr w.heap.size (fun _=>True) u4 x4_1):=⟨by rw [← hq_];exact (rs HO_4)⟩;have n1_ : Aside0 (Below w.heap.size w wr):=⟨by rw [← hq_];exact (hs HB)⟩;clear HO_4 HB hq_;have HO_4:=n0_;have HB:=n1_;clear n0_ n1_))))
      have n0_:=zMk (Kd.R_drew HO_4.out);have n1_:=zMk (below_drew1 HB.out);clear HO_4;clear HB;have HO_4:=n0_;have HB:=n1_;clear n0_ n1_;have p6 : 0 ≤ (x5_1 : Int):=zDe (by first | (with_reducible assumption) | assumption);have q6 : x5_1 < (a0.size : Int):=zDe (by first | (with_reducible assumption) | assumption);have hx6:=bt_at a0 x5_1;replace p6:=eq_true p6;replace q6:=eq_true q6;have p7 : 0 ≤ (x5_1 : Int):=zDe (by first | (with_reducible assumption) | assumption);have q7 : x5_1 < (a0.size : Int):=zDe (by first | (with_reducible assumption) | assumption);have hx7:=bt_at a0 x5_1;replace p7:=eq_true p7;replace q7:=eq_true q7;refine start_ (n:=15) (S:=fun w'=>True) (ds:=[]) (zA 15 0) (by kernel_rfl) rfl rfl trivial (fun hHeld=>?_);refine with_tabW impl_ReadRecs.tab6 impl_ReadRecs.bits6 (fun HT_ HW_=>?_);generalize wr.drew = w13 at HO_4 HB hHeld ⊢;refine zP 0 32 (zA 15 1) (any_of HT_.out (by kernel_rfl)) ?_;refine zP 1 33 (zA 15 3) (any_of HT_.out (by kernel_rfl)) ?_;refine zP 5 37 (zA 15 35) (any_of HT_.out (by kernel_rfl)) ?_;refine zP 6 38 (zA 15 99) (any_of HT_.out (by kernel_rfl)) ?_;refine zP 10 42 (zA 15 1123) (any_of HT_.out (by kernel_rfl)) ?_;refine zP 11 43 (zA 15 3171) (any_of HT_.out (by kernel_rfl)) ?_;refine take_ (i:=2) (N:=some 34) (v:=?_) (a':=?_) #[true,true,true,false,false,true,true,false,false,false,true,true,false,false,false] rfl rfl (take_ofW HT_.out HW_.out (by kernel_rfl)) (fun _ _ _ h=>h) (Or.inl ⟨by rfl,?_⟩) hHeld ?_ ?_;rotate_left
      ·intro w' _;go_simp;with_reducible rfl
      rotate_left
      ·simp only [Act.put,zS1,zS2,zS3,i64_w,i32_w];rfl
      refine zP 3 35 (zA 15 3183) (any_of HT_.out (by kernel_rfl)) ?_;refine zP 4 36 (zA 15 3199) (any_of HT_.out (by kernel_rfl)) ?_;refine take_ (i:=7) (N:=some 39) (v:=?_) (a':=?_) #[true,true,true,true,true,true,true,true,false,false,true,true,false,false,false] rfl rfl (take_ofW HT_.out HW_.out (by kernel_rfl)) (fun _ _ _ h=>h) (Or.inl ⟨by rfl,?_⟩) hHeld ?_ ?_;rotate_left
      ·intro w' _;go_simp;with_reducible rfl
      rotate_left
      ·simp only [Act.put,zS1,zS2,zS3,i64_w,i32_w];rfl
      refine zP 8 40 (zA 15 3583) (any_of HT_.out (by kernel_rfl)) ?_;refine zP 9 41 (zA 15 4095) (any_of HT_.out (by kernel_rfl)) ?_;refine zP 12 44 (zA 15 8191) (any_of HT_.out (by kernel_rfl)) ?_;refine one_ (i:=13) (N:=some 12) (zA 15 16383) rfl rfl (one_of HT_.out (by kernel_rfl)) (by decide) (fun K hK=>?_);refine box_step ?hg (N:=12) ?hd (cs:=#[.int .i64 0,.int .i64 0,.int .i64 0,.int .i64 0]) (t:=45) ?hr ?_;(case hd=>rfl);(case hg=>rfl);(case hr=>first | (go_simp;done) | (go_simp;rfl));intro gb429 hg w14 hbox hb;have n0_:=zMk (Kd.R_below (Kd.R_elderB (rs HO_4) gb429 (Nat.le_of_eq hg.symm)) hb);have n1_:=zMk (below_step (hs HB) hb);have n2_:=zMk (hbox);have n3_:=zMk ((by rw [hg];exact (below_size (hs HB)) : w.heap.size ≤ gb429));have n4_:=zMk ((by rw [hg];exact (below_size (hs HB)) : w.heap.size ≤ gb429));clear HO_4;clear HB;have HO_4:=n0_;have HB:=n1_;have BK429:=n2_;have GW429:=n3_;have GE429:=n4_;clear n0_ n1_ n2_ n3_ n4_;clear hb hbox hg;refine hK.out _ _ trivial (fun hHeld=>?_);clear hK K;refine norm_ (a':=?_) ?_ ?_;rotate_left
      ·show Act.put _ (some 12) _ = _;simp only [Act.put,zS1,zS2,zS3,i64_w,i32_w];rfl
      refine one_ (i:=14) (N:=none) (zA 15 32767) rfl rfl (one_of HT_.out (by kernel_rfl)) (by decide) (fun K hK=>?_);have hs15 : w14.cell? ⟨gb429,0,none⟩ = some (.int .i64 0):=(zCl BK429.out 0).trans rfl;have hfs15:=zFr BK429.out 0;have hs16 : w14.cell? ⟨gb429,1,none⟩ = some (.int .i64 0):=(zCl BK429.out 1).trans rfl;have hfs16:=zFr BK429.out 1;have hs17 : w14.cell? ⟨gb429,2,none⟩ = some (.int .i64 0):=(zCl BK429.out 2).trans rfl;have hfs17:=zFr BK429.out 2;have hs18 : w14.cell? ⟨gb429,3,none⟩ = some (.int .i64 0):=(zCl BK429.out 3).trans rfl;have hfs18:=zFr BK429.out 3;refine skip_ (w1:=?_) (by rfl) rfl ?_ ?_;rotate_left
      ·go_simp;rfl
      refine hK.out _ _ trivial (fun hHeld=>?_);clear hK K;refine done_ (done_of HT_.out (by kernel_rfl)) ?_;go_upto_region 7 with (fail)
      (try simp only [Act.put,zS1,zS2,zS3])
      by_cases c9 : t428 = true
      ·subst c9;have H1 : ((impl_RecOk.f k1 (wrap64 (Int.tdiv (wrap64 (bt a0 x5_1)) 16)) (Int.tmod (wrap64 (bt a0 x5_1)) 16) t423 t426).bind fun t430=>(if t430 = true then (if x4_1.length < 4398046511104 then (impl_ReadRecs.l0 k1 a0 (x4_1 ++ [(⟨wrap64 (Int.tdiv (wrap64 (bt a0 x5_1)) 16),Int.tmod (wrap64 (bt a0 x5_1)) 16,t423,t426⟩ : S45)]) t427) else (none)) else (some (([] : List (S45)),false)))) = some (r1,r2):=by rw [if_pos rfl] at H;exact H
       clear H;have H:=H1;clear H1;replace H:=Option.bind_eq_some_iff.mp H;obtain ⟨t430,A100,H⟩:=H;replace H : (if t430 = true then (if x4_1.length < 4398046511104 then (impl_ReadRecs.l0 k1 a0 (x4_1 ++ [(⟨wrap64 (Int.tdiv (wrap64 (bt a0 x5_1)) 16),Int.tmod (wrap64 (bt a0 x5_1)) 16,t423,t426⟩ : S45)]) t427) else (none)) else (some (([] : List (S45)),false))) = some (r1,r2):=H;have A10:=zMk A100;clear A100;have hcz19_0 : w14.cell? ⟨gb429,0,none⟩ = some (.int .i64 0):=(zCl BK429.out 0).trans rfl;have hcz19_1 : w14.cell? ⟨gb429,1,none⟩ = some (.int .i64 0):=(zCl BK429.out 1).trans rfl;have hcz19_2 : w14.cell? ⟨gb429,2,none⟩ = some (.int .i64 0):=(zCl BK429.out 2).trans rfl;have hcz19_3 : w14.cell? ⟨gb429,3,none⟩ = some (.int .i64 0):=(zCl BK429.out 3).trans rfl;have hfz19_0:=zFr BK429.out 0;have hfz19_1:=zFr BK429.out 1;have hfz19_2:=zFr BK429.out 2;have hfz19_3:=zFr BK429.out 3
       go_upto_if 55 with (first | (go_at_call 49;(with_reducible refine (impl_RecOk.calls k1 (wrap64 (Int.tdiv (wrap64 (bt a0 x5_1)) 16)) (Int.tmod (wrap64 (bt a0 x5_1)) 16) t423 t426 t430 _ A10.out).mono ?_);rintro e w20 ⟨rfl,hb⟩;have n0_:=zMk (Kd.R_below (by (with_reducible repeat (first | apply Kd.R_alloc | apply Kd.R_drewN | apply Kd.R_drew));exact (Kd.R_mono (Kd.R_far (p:=⟨gb429,3,none⟩) (Kd.R_far (p:=⟨gb429,2,none⟩) (Kd.R_far (p:=⟨gb429,1,none⟩) (Kd.R_far (p:=⟨gb429,0,none⟩) (Kd.R_mono HO_4.out (fun k_ hk=>(⟨hk,hk.2⟩ : _ ∧ k_ ≠ gb429))) (fun _ hk=>hk.2) (.int .i64 (wrap64 (Int.tdiv (wrap64 (bt a0 x5_1)) 16)))) (fun _ hk=>hk.2) (.int .i64 (Int.tmod (wrap64 (bt a0 x5_1)) 16))) (fun _ hk=>hk.2) (.int .i64 t423)) (fun _ hk=>hk.2) (.int .i64 t426)) (fun _ h_=>h_.1))) hb);have n1_:=zMk (blk_below (g:=gb429) (o:=.cells #[.int .i64 (wrap64 (Int.tdiv (wrap64 (bt a0 x5_1)) 16)),.int .i64 (Int.tmod (wrap64 (bt a0 x5_1)) 16),.int .i64 t423,.int .i64 t426] 45 (0,0)) (by (with_reducible repeat (first | refine blk_drewN ?_ _ | refine blk_drew ?_ | refine blk_alloc ?_ _));refine blk_put (cs:=#[.int .i64 (wrap64 (Int.tdiv (wrap64 (bt a0 x5_1)) 16)),.int .i64 (Int.tmod (wrap64 (bt a0 x5_1)) 16),.int .i64 t423,.int .i64 0]) ?_ 3 _ rfl;(with_reducible repeat (first | refine blk_drewN ?_ _ | refine blk_drew ?_ | refine blk_alloc ?_ _));refine blk_put (cs:=#[.int .i64 (wrap64 (Int.tdiv (wrap64 (bt a0 x5_1)) 16)),.int .i64 (Int.tmod (wrap64 (bt a0 x5_1)) 16),.int .i64 0,.int .i64 0]) ?_ 2 _ rfl;(with_reducible repeat (first | refine blk_drewN ?_ _ | refine blk_drew ?_ | refine blk_alloc ?_ _));refine blk_put (cs:=#[.int .i64 (wrap64 (Int.tdiv (wrap64 (bt a0 x5_1)) 16)),.int .i64 0,.int .i64 0,.int .i64 0]) ?_ 1 _ rfl;(with_reducible repeat (first | refine blk_drewN ?_ _ | refine blk_drew ?_ | refine blk_alloc ?_ _));refine blk_put (cs:=#[.int .i64 0,.int .i64 0,.int .i64 0,.int .i64 0]) ?_ 0 _ rfl;(with_reducible repeat (first | refine blk_drewN ?_ _ | refine blk_drew ?_ | refine blk_alloc ?_ _));exact BK429.out) hb);have n2_:=zMk (below_step (hs1 HB GE429) hb);clear HO_4;clear BK429;clear HB;have HO_4:=n0_;have BK429:=n1_;have HB:=n2_;clear n0_ n1_ n2_;(try clear hb);(try clear hb2);(try clear hk);(try clear hi)))
       (try simp only [Act.put,zS1,zS2,zS3])
       by_cases c11 : t430 = true
       ·subst c11;have H1 : (if x4_1.length < 4398046511104 then (impl_ReadRecs.l0 k1 a0 (x4_1 ++ [(⟨wrap64 (Int.tdiv (wrap64 (bt a0 x5_1)) 16),Int.tmod (wrap64 (bt a0 x5_1)) 16,t423,t426⟩ : S45)]) t427) else (none)) = some (r1,r2):=by rw [if_pos rfl] at H;exact H
        clear H;have H:=H1;clear H1
        by_cases c12 : x4_1.length < 4398046511104
        ·rw [if_pos c12] at H;have LMc12:=zMk c12;clear c12;obtain ⟨y431,hy431⟩ : ∃ y_ : List (S45),y_ = (x4_1 ++ [(⟨wrap64 (Int.tdiv (wrap64 (bt a0 x5_1)) 16),Int.tmod (wrap64 (bt a0 x5_1)) 16,t423,t426⟩ : S45)]):=⟨_,rfl⟩;replace H : (impl_ReadRecs.l0 k1 a0 y431 t427) = some (r1,r2):=by first | (rw [hy431];with_reducible exact H) | (have H2_:=(Option.bind_some _ _).symm.trans H;rw [hy431];with_reducible exact H2_) | (have H2_:=(Option.bind_some _ _).symm.trans H;with_reducible exact H2_) | with_reducible exact H | (rw [hy431];exact H) | exact H
         have Ny431:=zMk hy431;clear hy431;have H':=zMk H;clear H;have hcz21_0 : w20.cell? ⟨gb429,0,none⟩ = some (.int .i64 (wrap64 (Int.tdiv (wrap64 (bt a0 x5_1)) 16))):=(zCl BK429.out 0).trans rfl;have hcz21_1 : w20.cell? ⟨gb429,1,none⟩ = some (.int .i64 (Int.tmod (wrap64 (bt a0 x5_1)) 16)):=(zCl BK429.out 1).trans rfl;have hcz21_2 : w20.cell? ⟨gb429,2,none⟩ = some (.int .i64 t423):=(zCl BK429.out 2).trans rfl;have hcz21_3 : w20.cell? ⟨gb429,3,none⟩ = some (.int .i64 t426):=(zCl BK429.out 3).trans rfl;have hfz21_0:=zFr BK429.out 0;have hfz21_1:=zFr BK429.out 1;have hfz21_2:=zFr BK429.out 2;have hfz21_3:=zFr BK429.out 3
         try go_wp2_with (first | ((with_reducible refine gate_builtin (b:=.append) (xs:=#[.tmp 56,.tmp 58]) rfl ?_);at_builtin;refine Kd.R_append k45 (w0:=w) w.heap.size rfl (.tmp 56) (.tmp 58) 24 45 (.agg #[(.int .i64 0),(.int .i64 0),(.int .i64 0),(.int .i64 0)]) 32 rfl Try.underlying24 info45 rfl (by decide) (by omega) u4 x4_1 (⟨wrap64 (Int.tdiv (wrap64 (bt a0 x5_1)) 16),Int.tmod (wrap64 (bt a0 x5_1)) 16,t423,t426⟩ : S45) [.int .i64 (wrap64 (Int.tdiv (wrap64 (bt a0 x5_1)) 16)),.int .i64 (Int.tmod (wrap64 (bt a0 x5_1)) 16),.int .i64 t423,.int .i64 t426] (fun k_=>k_ ≠ gb429) (fun _=>False) rfl rfl ?aP (fun _ hk=>hk.elim) ?aF ?aO ?aB ?aS ?aL ?_;(case aP=>exact k45_mkM _ _ _ (⟨wrap64 (Int.tdiv (wrap64 (bt a0 x5_1)) 16),Int.tmod (wrap64 (bt a0 x5_1)) 16,t423,t426⟩ : S45));(case aB=>exact (hs1 HB GE429));(case aF=>exact (fun k_ hk=>Kd.freshB (g:=gb429) (o:=.cells #[.int .i64 (wrap64 (Int.tdiv (wrap64 (bt a0 x5_1)) 16)),.int .i64 (Int.tmod (wrap64 (bt a0 x5_1)) 16),.int .i64 t423,.int .i64 t426] 45 (0,0)) (bs BK429) k_ hk));(case aO=>exact (by (with_reducible repeat (first | apply Kd.R_alloc | apply Kd.R_drewN | apply Kd.R_drew));exact Kd.R_mono HO_4.out (fun _ hk=>hk.2)));(case aS=>exact (below_size (hs1 HB GE429)));(case aL=>have:=LMc12.out;omega);intro v432 w22 ho hb hg hat;rw [← Ny431.out] at ho;have n0_:=zMk (blk_grown (g:=gb429) (o:=.cells #[.int .i64 (wrap64 (Int.tdiv (wrap64 (bt a0 x5_1)) 16)),.int .i64 (Int.tmod (wrap64 (bt a0 x5_1)) 16),.int .i64 t423,.int .i64 t426] 45 (0,0)) (bs BK429) hg (Kd.R_away HO_4.out (fun _ hk=>hk.2)));have n1_:=zMk (hb);have n2_:=zMk (ho);clear BK429;clear HB;clear HO_4;have BK429:=n0_;have HB:=n1_;have HO433:=n2_;clear n0_ n1_ n2_;clear ho hb hg hat))
         go_roundg k1;case measure=>have:=HK1.out;omega
         case rel=>exact ⟨(y431),(t427),(by first | rfl | (simp;done) | (simp [*];done)),H',⟨by have:=HK1.out;omega⟩,⟨by (with_reducible repeat (first | apply Kd.R_alloc | apply Kd.R_drewN | apply Kd.R_drew));exact Kd.R_mono HO433.out (fun _ hk=>trivial)⟩,⟨hs1 HB GE429⟩⟩
        rw [if_neg c12] at H;exact absurd H (by simp)
       replace c11:=Bool.eq_false_iff.mpr c11;subst c11;have H1 : (some (([] : List (S45)),false)) = some (r1,r2):=by rw [if_neg (show ¬ (false = true) by decide)] at H;exact H
       clear H;have H:=H1;clear H1;simp only [Option.some.injEq,Prod.mk.injEq] at H;obtain ⟨rfl,rfl⟩:=H
       try go_wp2
       go_ret2
       exact ⟨_,by first | rfl | (simp [errW_none,errW_some] <;> rfl) | (simp [*,errW_none,errW_some] <;> rfl),by first | exact Kd.R_nil _ _ _ _ _ | exact Kd.N_nil _ _ _ _ _ | exact Kd.V_nil _ _ _ _ _ | exact Kd.Q_nil _ _ _ _ _ | exact Kd.S_nil _ _ _ _ _,hs1 HB GE429⟩
      replace c9:=Bool.eq_false_iff.mpr c9;subst c9;have H1 : (some (([] : List (S45)),false)) = some (r1,r2):=by rw [if_neg (show ¬ (false = true) by decide)] at H;exact H
      clear H;have H:=H1;clear H1;simp only [Option.some.injEq,Prod.mk.injEq] at H;obtain ⟨rfl,rfl⟩:=H
      try go_wp2
      go_ret2
      exact ⟨_,by first | rfl | (simp [errW_none,errW_some] <;> rfl) | (simp [*,errW_none,errW_some] <;> rfl),by first | exact Kd.R_nil _ _ _ _ _ | exact Kd.N_nil _ _ _ _ _ | exact Kd.V_nil _ _ _ _ _ | exact Kd.Q_nil _ _ _ _ _ | exact Kd.S_nil _ _ _ _ _,hs1 HB GE429⟩
     replace c8:=Bool.eq_false_iff.mpr c8;subst c8;have H1 : (some (([] : List (S45)),false)) = some (r1,r2):=by rw [if_neg (show ¬ (false = true) by decide)] at H;exact H
     clear H;have H:=H1;clear H1;simp only [Option.some.injEq,Prod.mk.injEq] at H;obtain ⟨rfl,rfl⟩:=H
     try go_wp2_with (first | ((with_reducible refine gate_callee (f:=66) rfl ?_);refine goesL_ (some 28) rfl rfl Try.func66 (by kernel_rfl) rfl #[.string a0,.int .i64 t424] rfl (by (try simp only [List.map_toArray,List.map_cons,List.map_nil]);first | done | rfl | (simp only [List.length_drop,List.length_take];rfl)) ?_;(with_reducible refine (impl_ReadVar.calls k1 a0 t424 t426 t427 t428 _ A4.out).mono ?_);rintro e w' ⟨rfl,⟨nd,rfl⟩⟩;refine ⟨_,rfl,?_⟩;(try (rw [drewN_self wr];generalize hq_ : World.drewN wr _ = wr;have n0_ : Aside0 (Kd.R k45 45 wr w.heap.size (fun _=>True) u4 x4_1):=⟨by rw [← hq_];exact (rs HO_4)⟩;have n1_ : Aside0 (Below w.heap.size w wr):=⟨by rw [← hq_];exact (hs HB)⟩;clear HO_4 HB hq_;have HO_4:=n0_;have HB:=n1_;clear n0_ n1_))))
     have n0_:=zMk (Kd.R_drew HO_4.out);have n1_:=zMk (below_drew1 HB.out);clear HO_4;clear HB;have HO_4:=n0_;have HB:=n1_;clear n0_ n1_;have p6 : 0 ≤ (x5_1 : Int):=zDe (by first | (with_reducible assumption) | assumption);have q6 : x5_1 < (a0.size : Int):=zDe (by first | (with_reducible assumption) | assumption);have hx6:=bt_at a0 x5_1;replace p6:=eq_true p6;replace q6:=eq_true q6;have p7 : 0 ≤ (x5_1 : Int):=zDe (by first | (with_reducible assumption) | assumption);have q7 : x5_1 < (a0.size : Int):=zDe (by first | (with_reducible assumption) | assumption);have hx7:=bt_at a0 x5_1;replace p7:=eq_true p7;replace q7:=eq_true q7;refine start_ (n:=15) (S:=fun w'=>True) (ds:=[]) (zA 15 0) (by kernel_rfl) rfl rfl trivial (fun hHeld=>?_);refine with_tabW impl_ReadRecs.tab6 impl_ReadRecs.bits6 (fun HT_ HW_=>?_);generalize wr.drew = w37 at HO_4 HB hHeld ⊢;refine zP 0 32 (zA 15 1) (any_of HT_.out (by kernel_rfl)) ?_;refine zP 1 33 (zA 15 3) (any_of HT_.out (by kernel_rfl)) ?_;refine zP 5 37 (zA 15 35) (any_of HT_.out (by kernel_rfl)) ?_;refine zP 6 38 (zA 15 99) (any_of HT_.out (by kernel_rfl)) ?_;refine zP 10 42 (zA 15 1123) (any_of HT_.out (by kernel_rfl)) ?_;refine zP 11 43 (zA 15 3171) (any_of HT_.out (by kernel_rfl)) ?_;refine take_ (i:=2) (N:=some 34) (v:=?_) (a':=?_) #[true,true,true,false,false,true,true,false,false,false,true,true,false,false,false] rfl rfl (take_ofW HT_.out HW_.out (by kernel_rfl)) (fun _ _ _ h=>h) (Or.inl ⟨by rfl,?_⟩) hHeld ?_ ?_;rotate_left
     ·intro w' _;go_simp;with_reducible rfl
     rotate_left
     ·simp only [Act.put,zS1,zS2,zS3,i64_w,i32_w];rfl
     refine zP 3 35 (zA 15 3183) (any_of HT_.out (by kernel_rfl)) ?_;refine zP 4 36 (zA 15 3199) (any_of HT_.out (by kernel_rfl)) ?_;refine take_ (i:=7) (N:=some 39) (v:=?_) (a':=?_) #[true,true,true,true,true,true,true,true,false,false,true,true,false,false,false] rfl rfl (take_ofW HT_.out HW_.out (by kernel_rfl)) (fun _ _ _ h=>h) (Or.inl ⟨by rfl,?_⟩) hHeld ?_ ?_;rotate_left
     ·intro w' _;go_simp;with_reducible rfl
     rotate_left
     ·simp only [Act.put,zS1,zS2,zS3,i64_w,i32_w];rfl
     refine zP 8 40 (zA 15 3583) (any_of HT_.out (by kernel_rfl)) ?_;refine zP 9 41 (zA 15 4095) (any_of HT_.out (by kernel_rfl)) ?_;refine zP 12 44 (zA 15 8191) (any_of HT_.out (by kernel_rfl)) ?_;refine one_ (i:=13) (N:=some 12) (zA 15 16383) rfl rfl (one_of HT_.out (by kernel_rfl)) (by decide) (fun K hK=>?_);refine box_step ?hg (N:=12) ?hd (cs:=#[.int .i64 0,.int .i64 0,.int .i64 0,.int .i64 0]) (t:=45) ?hr ?_;(case hd=>rfl);(case hg=>rfl);(case hr=>first | (go_simp;done) | (go_simp;rfl));intro gb429 hg w38 hbox hb;have n0_:=zMk (Kd.R_below (Kd.R_elderB (rs HO_4) gb429 (Nat.le_of_eq hg.symm)) hb);have n1_:=zMk (below_step (hs HB) hb);have n2_:=zMk (hbox);have n3_:=zMk ((by rw [hg];exact (below_size (hs HB)) : w.heap.size ≤ gb429));have n4_:=zMk ((by rw [hg];exact (below_size (hs HB)) : w.heap.size ≤ gb429));clear HO_4;clear HB;have HO_4:=n0_;have HB:=n1_;have BK429:=n2_;have GW429:=n3_;have GE429:=n4_;clear n0_ n1_ n2_ n3_ n4_;clear hb hbox hg;refine hK.out _ _ trivial (fun hHeld=>?_);clear hK K;refine norm_ (a':=?_) ?_ ?_;rotate_left
     ·show Act.put _ (some 12) _ = _;simp only [Act.put,zS1,zS2,zS3,i64_w,i32_w];rfl
     refine one_ (i:=14) (N:=none) (zA 15 32767) rfl rfl (one_of HT_.out (by kernel_rfl)) (by decide) (fun K hK=>?_);have hs39 : w38.cell? ⟨gb429,0,none⟩ = some (.int .i64 0):=(zCl BK429.out 0).trans rfl;have hfs39:=zFr BK429.out 0;have hs40 : w38.cell? ⟨gb429,1,none⟩ = some (.int .i64 0):=(zCl BK429.out 1).trans rfl;have hfs40:=zFr BK429.out 1;have hs41 : w38.cell? ⟨gb429,2,none⟩ = some (.int .i64 0):=(zCl BK429.out 2).trans rfl;have hfs41:=zFr BK429.out 2;have hs42 : w38.cell? ⟨gb429,3,none⟩ = some (.int .i64 0):=(zCl BK429.out 3).trans rfl;have hfs42:=zFr BK429.out 3;refine skip_ (w1:=?_) (by rfl) rfl ?_ ?_;rotate_left
     ·go_simp;rfl
     refine hK.out _ _ trivial (fun hHeld=>?_);clear hK K;refine done_ (done_of HT_.out (by kernel_rfl)) ?_
     try go_wp2
     go_ret2
     exact ⟨_,by first | rfl | (simp [errW_none,errW_some] <;> rfl) | (simp [*,errW_none,errW_some] <;> rfl),by first | exact Kd.R_nil _ _ _ _ _ | exact Kd.N_nil _ _ _ _ _ | exact Kd.V_nil _ _ _ _ _ | exact Kd.Q_nil _ _ _ _ _ | exact Kd.S_nil _ _ _ _ _,hs1 HB GE429⟩
    rw [if_neg c5] at H;exact absurd H (by simp)
   rw [if_neg c2] at H;have c2b0 : decide (x5_1 < (a0.size : Int)) = false:=decide_eq_false c2;clear c2;simp only [Option.some.injEq,Prod.mk.injEq] at H;obtain ⟨rfl,rfl⟩:=H
   go_wp2
   go_ret2
   exact ⟨_,by first | rfl | (simp [errW_none,errW_some] <;> rfl) | (simp [*,errW_none,errW_some] <;> rfl),rs HO_4,hs HB⟩
def impl_gathered.l0 : Nat → List (S36) → Int → ByteArray → Int → Int → Int → Int → Int → Int → Int → ByteArray → Option (Int × Int × (List (S45)) × Bool)
 | 0,_,_,_,_,_,_,_,_,_,_,_=>none
 | k + 1,x0,x1,x8,x9,x10,x443000,x443001,x443002,x443003,x443004,x443005=>if x10 < x443004 then ((impl_metaOf.f k x0 x1 x10 x443004).bind fun bt443=>(if bt443.2.2.2.2.2.2 = true then (if x8.size + bt443.2.2.2.2.2.1.size ≤ 9223372036854775807 then (impl_gathered.l0 k x0 x1 (x8 ++ bt443.2.2.2.2.2.1) (mn x9 bt443.2.1) (wrap64 (x10 + 1)) x443000 x443001 x443002 x443003 x443004 x443005) else (none)) else (some (0,0,([] : List (S45)),false)))) else ((impl_ReadRecs.f k x8).bind fun bt451=>(some (x1,x9,bt451.1,bt451.2)))
def impl_gathered.f (k : Nat) (l0 : List (S36)) (a1 : Int) : Option (Int × Int × (List (S45)) × Bool):=(impl_metaOf.f k l0 a1 0 0).bind fun bt435=>(if bt435.2.2.2.2.2.2 = true then (impl_gathered.l0 k l0 a1 bt435.2.2.2.2.2.1 bt435.2.1 1 bt435.1 bt435.2.1 bt435.2.2.1 bt435.2.2.2.1 bt435.2.2.2.2.1 bt435.2.2.2.2.2.1) else (some (0,0,([] : List (S45)),false)))
theorem impl_gathered.mono_l : ∀ k,(∀ y0 y1 y2 y3 y4 y5 y6 y7 y8 y9 y10,LeO (impl_gathered.l0 k y0 y1 y2 y3 y4 y5 y6 y7 y8 y9 y10) (impl_gathered.l0 (k + 1) y0 y1 y2 y3 y4 y5 y6 y7 y8 y9 y10))
 | 0=>fun _ _ _ _ _ _ _ _ _ _ _ r h=>by simp [impl_gathered.l0] at h
 | k + 1=>by
  have ih0:=impl_gathered.mono_l k;intro y0 y1 y2 y3 y4 y5 y6 y7 y8 y9 y10;unfold impl_gathered.l0
  repeat' first
  | (with_reducible exact ih0 _ _ _ _ _ _ _ _ _ _ _)
  | (with_reducible exact impl_ReadRecs.mono _ _)
  | (with_reducible exact impl_metaOf.mono _ _ _ _ _)
  | (with_reducible exact LeO.refl _)
  | (with_reducible exact LeO.none _)
  | (with_reducible refine LeO.ite ?_ ?_)
  | (with_reducible refine LeO.bind ?_ (fun _=>?_))
  | exact ih0 _ _ _ _ _ _ _ _ _ _ _
  | exact impl_ReadRecs.mono _ _
  | exact impl_metaOf.mono _ _ _ _ _
  | exact LeO.none _
  | refine LeO.ite ?_ ?_
  | refine LeO.bind ?_ (fun _=>?_)
theorem impl_gathered.mono : ∀ a0 a1 k,LeO (impl_gathered.f k a0 a1) (impl_gathered.f (k + 1) a0 a1):=by
 intro a0 a1 k;have ih0:=impl_gathered.mono_l k;unfold impl_gathered.f
 repeat' first
   | (with_reducible exact ih0 _ _ _ _ _ _ _ _ _ _ _)
   | (with_reducible exact impl_ReadRecs.mono _ _)
   | (with_reducible exact impl_metaOf.mono _ _ _ _ _)
   | (with_reducible exact LeO.refl _)
   | (with_reducible exact LeO.none _)
   | (with_reducible refine LeO.ite ?_ ?_)
   | (with_reducible refine LeO.bind ?_ (fun _=>?_))
   | exact ih0 _ _ _ _ _ _ _ _ _ _ _
   | exact impl_ReadRecs.mono _ _
   | exact impl_metaOf.mono _ _ _ _ _
   | exact LeO.none _
   | refine LeO.ite ?_ ?_
   | refine LeO.bind ?_ (fun _=>?_)
set_option maxHeartbeats 8000000 in
set_option maxRecDepth 100000 in
theorem impl_gathered.calls (k : Nat) (A0 : Option Addr) (c0 : Nat) (l0 : List (S36)) (a1 : Int) (r1 : Int) (r2 : Int) (r3 : List (S45)) (r4 : Bool) (w : World) (hr0 : Kd.C k36 w A0 l0.length l0) (hc0 : l0.length ≤ c0) (h : impl_gathered.f k l0 a1 = some (r1,r2,r3,r4)) :
  Calls Try.prog 37 #[.slice A0 l0.length c0,.int .i64 a1] w fun e w'=>∃ v2_ : Value,e = .returned (.tuple #[.agg #[.int .i64 r1,.int .i64 r2,v2_],.bool r4]) ∧ Kd.R k45 45 w' w.heap.size (fun _=>True) v2_ r3 ∧ Below w.heap.size w w':=by
 have hu40:=Try.underlying40;have hu33:=Try.underlying33;have HR0:=zMk hr0;have HC0:=zMk hc0;clear hr0 hc0;have HB:=zMk (Below.refl w.heap.size w);have H : ((impl_metaOf.f k l0 a1 0 0).bind fun bt435=>(if bt435.2.2.2.2.2.2 = true then (impl_gathered.l0 k l0 a1 bt435.2.2.2.2.2.1 bt435.2.1 1 bt435.1 bt435.2.1 bt435.2.2.1 bt435.2.2.2.1 bt435.2.2.2.2.1 bt435.2.2.2.2.2.1) else (some (0,0,([] : List (S45)),false)))) = some (r1,r2,r3,r4):=h;clear h;replace H:=Option.bind_eq_some_iff.mp H;obtain ⟨⟨t435,t436,t437,t438,t439,t440,t441⟩,A30,H⟩:=H;replace H : (if t441 = true then (impl_gathered.l0 k l0 a1 t440 t436 1 t435 t436 t437 t438 t439 t440) else (some (0,0,([] : List (S45)),false))) = some (r1,r2,r3,r4):=H;have A3:=zMk A30;clear A30
 go_enter Try.func37,Try.ntmps37
 go_upto_if 22 with (first | ((with_reducible refine gate_dst (N:=4) rfl ?_);refine box_event ?hg (N:=4) ?hd (cs:=#[.int .i64 0,.int .i64 0,.slice none 0 0]) (t:=40) ?hr ?_;(case hd=>rfl);(case hg=>rfl);(case hr=>first | (go_simp;done) | (go_simp;rfl));intro gb434 hg w5 hbox hb;have n0_:=zMk (below_step (hs HB) hb);have n1_:=zMk (hbox);have n2_:=zMk ((by rw [hg];exact (below_size (hs HB)) : w.heap.size ≤ gb434));have n3_:=zMk ((by rw [hg];exact (below_size (hs HB)) : w.heap.size ≤ gb434));clear HB;have HB:=n0_;have BK434:=n1_;have GW434:=n2_;have GE434:=n3_;clear n0_ n1_ n2_ n3_;clear hb hbox hg) | (go_at_call 55;(with_reducible refine (impl_metaOf.calls k _ _ l0 a1 0 0 t435 t436 t437 t438 t439 t440 t441 _ ?side1 ?side2 A3.out).mono ?_);(case side1=>repeat (first | exact (Kd.C_below HR0.out HB.out) | (with_reducible refine Kd.C_alloc ?_ _) | (with_reducible refine Kd.C_drewN ?_ _) | (with_reducible refine Kd.C_drew ?_)));(case side2=>exact HC0.out);rintro e w6 ⟨rfl,hb⟩;have n0_:=zMk (blk_below (g:=gb434) (o:=.cells #[.int .i64 0,.int .i64 0,.slice none 0 0] 40 (0,0)) (bs BK434) hb);have n1_:=zMk (below_step (hs1 HB GE434) hb);clear BK434;clear HB;have BK434:=n0_;have HB:=n1_;clear n0_ n1_;(try clear hb);(try clear hb2);(try clear hk);(try clear hi)) | ((with_reducible refine gate_dst (N:=6) rfl ?_);refine box_event ?hg (N:=6) ?hd (cs:=#[.int .i64 0,.int .i64 0,.int .i64 0,.int .i64 0,.int .i64 0,.string (⟨#[]⟩ : ByteArray)]) (t:=33) ?hr ?_;(case hd=>rfl);(case hg=>rfl);(case hr=>first | (go_simp;done) | (go_simp;rfl));intro gb442 hg w7 hbox hb;have n0_:=zMk (blk_below (g:=gb434) (o:=.cells #[.int .i64 0,.int .i64 0,.slice none 0 0] 40 (0,0)) (bs BK434) hb);have n1_:=zMk (below_step (hs1 HB GE434) hb);have n2_:=zMk (hbox);have n3_:=zMk ((by rw [hg];exact (below_size (hs1 HB GE434)) : w.heap.size ≤ gb442));have n4_:=zMk ((by rw [hg];exact (below_size (hs1 HB GE434)) : w.heap.size ≤ gb442));have n5_:=zMk ((by rw [hg];exact Nat.ne_of_lt (blk_lt (g:=gb434) (o:=.cells #[.int .i64 0,.int .i64 0,.slice none 0 0] 40 (0,0)) (bs BK434)) : gb434 ≠ gb442));have n6_:=zMk ((by rw [hg];exact Nat.ne_of_gt (blk_lt (g:=gb434) (o:=.cells #[.int .i64 0,.int .i64 0,.slice none 0 0] 40 (0,0)) (bs BK434)) : gb442 ≠ gb434));clear BK434;clear HB;have BK434:=n0_;have HB:=n1_;have BK442:=n2_;have GW442:=n3_;have GE442:=n4_;have NB434_442:=n5_;have NB442_434:=n6_;clear n0_ n1_ n2_ n3_ n4_ n5_ n6_;clear hb hbox hg;have hnb8:=NB442_434.out;have hnc8:=NB434_442.out;have hcz9_0 : w7.cell? ⟨gb442,0,none⟩ = some (.int .i64 0):=(zCl BK442.out 0).trans rfl;have hcz9_1 : w7.cell? ⟨gb442,1,none⟩ = some (.int .i64 0):=(zCl BK442.out 1).trans rfl;have hcz9_2 : w7.cell? ⟨gb442,2,none⟩ = some (.int .i64 0):=(zCl BK442.out 2).trans rfl;have hcz9_3 : w7.cell? ⟨gb442,3,none⟩ = some (.int .i64 0):=(zCl BK442.out 3).trans rfl;have hcz9_4 : w7.cell? ⟨gb442,4,none⟩ = some (.int .i64 0):=(zCl BK442.out 4).trans rfl;have hcz9_5 : w7.cell? ⟨gb442,5,none⟩ = some (.string (⟨#[]⟩ : ByteArray)):=(zCl BK442.out 5).trans rfl;have hfz9_0:=zFr BK442.out 0;have hfz9_1:=zFr BK442.out 1;have hfz9_2:=zFr BK442.out 2;have hfz9_3:=zFr BK442.out 3;have hfz9_4:=zFr BK442.out 4;have hfz9_5:=zFr BK442.out 5) | ((fail_if_success go_not_at_region 4);go_quiet (fail)))
 (try simp only [Act.put,zS1,zS2,zS3])
 by_cases c4 : t441 = true
 ·subst c4;have H1 : (impl_gathered.l0 k l0 a1 t440 t436 1 t435 t436 t437 t438 t439 t440) = some (r1,r2,r3,r4):=by rw [if_pos rfl] at H;exact H
  clear H;have H:=H1;clear H1;have H':=zMk H;clear H;go_wp2_with ((fail_if_success go_not_at_region 4);go_quiet (fail));go_loopg [8,9,10] k (fun kq v8 v9 v10 w'=>∃ (x8_1 : ByteArray) (x9_1 : Int) (x10_1 : Int) (x435000_1 : Int) (x435001_1 : Int),v8 = .string x8_1 ∧ v9 = .int .i64 x9_1 ∧ v10 = .int .i64 x10_1 ∧ Aside0 (impl_gathered.l0 kq l0 a1 x8_1 x9_1 x10_1 t435 t436 t437 t438 t439 t440 = some (r1,r2,r3,r4)) ∧ Aside0 (kq ≤ k) ∧ Aside0 (w'.heap[gb434]? = some (.cells #[.int .i64 x435000_1,.int .i64 x435001_1,(.slice none 0 0)] 40 (0,0))) ∧ Aside0 (w'.heap[gb442]? = some (.cells #[.int .i64 t435,.int .i64 t436,.int .i64 t437,.int .i64 t438,.int .i64 t439,.string t440] 33 (0,0))) ∧ Aside0 (Below w.heap.size w w'));case atStart=>exact ⟨(t440),(t436),(1),(0),(0),(by first | rfl | (simp;done) | (simp [*];done)),(by first | rfl | (simp;done) | (simp [*];done)),(by first | rfl | (simp;done) | (simp [*];done)),H',⟨Nat.le_refl _⟩,⟨by (with_reducible repeat (first | refine blk_drewN ?_ _ | refine blk_drew ?_ | refine blk_alloc ?_ _));refine blk_far ?_ NB434_442.out _;(with_reducible repeat (first | refine blk_drewN ?_ _ | refine blk_drew ?_ | refine blk_alloc ?_ _));refine blk_far ?_ NB434_442.out _;(with_reducible repeat (first | refine blk_drewN ?_ _ | refine blk_drew ?_ | refine blk_alloc ?_ _));refine blk_far ?_ NB434_442.out _;(with_reducible repeat (first | refine blk_drewN ?_ _ | refine blk_drew ?_ | refine blk_alloc ?_ _));refine blk_far ?_ NB434_442.out _;(with_reducible repeat (first | refine blk_drewN ?_ _ | refine blk_drew ?_ | refine blk_alloc ?_ _));refine blk_far ?_ NB434_442.out _;(with_reducible repeat (first | refine blk_drewN ?_ _ | refine blk_drew ?_ | refine blk_alloc ?_ _));refine blk_far ?_ NB434_442.out _;(with_reducible repeat (first | refine blk_drewN ?_ _ | refine blk_drew ?_ | refine blk_alloc ?_ _));exact BK434.out⟩,⟨by (with_reducible repeat (first | refine blk_drewN ?_ _ | refine blk_drew ?_ | refine blk_alloc ?_ _));refine blk_put (cs:=#[.int .i64 t435,.int .i64 t436,.int .i64 t437,.int .i64 t438,.int .i64 t439,.string (⟨#[]⟩ : ByteArray)]) ?_ 5 _ rfl;(with_reducible repeat (first | refine blk_drewN ?_ _ | refine blk_drew ?_ | refine blk_alloc ?_ _));refine blk_put (cs:=#[.int .i64 t435,.int .i64 t436,.int .i64 t437,.int .i64 t438,.int .i64 0,.string (⟨#[]⟩ : ByteArray)]) ?_ 4 _ rfl;(with_reducible repeat (first | refine blk_drewN ?_ _ | refine blk_drew ?_ | refine blk_alloc ?_ _));refine blk_put (cs:=#[.int .i64 t435,.int .i64 t436,.int .i64 t437,.int .i64 0,.int .i64 0,.string (⟨#[]⟩ : ByteArray)]) ?_ 3 _ rfl;(with_reducible repeat (first | refine blk_drewN ?_ _ | refine blk_drew ?_ | refine blk_alloc ?_ _));refine blk_put (cs:=#[.int .i64 t435,.int .i64 t436,.int .i64 0,.int .i64 0,.int .i64 0,.string (⟨#[]⟩ : ByteArray)]) ?_ 2 _ rfl;(with_reducible repeat (first | refine blk_drewN ?_ _ | refine blk_drew ?_ | refine blk_alloc ?_ _));refine blk_put (cs:=#[.int .i64 t435,.int .i64 0,.int .i64 0,.int .i64 0,.int .i64 0,.string (⟨#[]⟩ : ByteArray)]) ?_ 1 _ rfl;(with_reducible repeat (first | refine blk_drewN ?_ _ | refine blk_drew ?_ | refine blk_alloc ?_ _));refine blk_put (cs:=#[.int .i64 0,.int .i64 0,.int .i64 0,.int .i64 0,.int .i64 0,.string (⟨#[]⟩ : ByteArray)]) ?_ 0 _ rfl;(with_reducible repeat (first | refine blk_drewN ?_ _ | refine blk_drew ?_ | refine blk_alloc ?_ _));exact BK442.out⟩,⟨hs2 HB GE434 GE442⟩⟩
  case round =>
   clear H'
   try clear p2
   try clear c3
   try clear c4
   try clear c8
   try clear hcz9_0
   try clear hcz9_1
   try clear hcz9_2
   try clear hcz9_3
   try clear hcz9_4
   try clear hcz9_5
   try clear hfz9_0
   try clear hfz9_1
   try clear hfz9_2
   try clear hfz9_3
   try clear hfz9_4
   try clear hfz9_5
   obtain ⟨x8_1,x9_1,x10_1,x435000_1,x435001_1,rfl,rfl,rfl,HA,HK1,BK434,BK442,HB⟩:=hrel;cases gk with
   | zero=>exact absurd HA.out (by simp [impl_gathered.l0])
   | succ k1 =>
    have H:=HA.out;clear HA;simp only [impl_gathered.l0] at H
    by_cases c10 : x10_1 < t439
    ·rw [if_pos c10] at H;have c10b0 : decide (x10_1 < t439) = true:=decide_eq_true c10;clear c10;replace H:=Option.bind_eq_some_iff.mp H;obtain ⟨⟨t443,t444,t445,t446,t447,t448,t449⟩,A110,H⟩:=H;replace H : (if t449 = true then (if x8_1.size + t448.size ≤ 9223372036854775807 then (impl_gathered.l0 k1 l0 a1 (x8_1 ++ t448) (mn x9_1 t444) (wrap64 (x10_1 + 1)) t435 t436 t437 t438 t439 t440) else (none)) else (some (0,0,([] : List (S45)),false))) = some (r1,r2,r3,r4):=H;have A11:=zMk A110;clear A110;have hnb15:=NB442_434.out;have hnc15:=NB434_442.out;have hcz16_0 : wr.cell? ⟨gb442,0,none⟩ = some (.int .i64 t435):=(zCl BK442.out 0).trans rfl;have hcz16_1 : wr.cell? ⟨gb442,1,none⟩ = some (.int .i64 t436):=(zCl BK442.out 1).trans rfl;have hcz16_2 : wr.cell? ⟨gb442,2,none⟩ = some (.int .i64 t437):=(zCl BK442.out 2).trans rfl;have hcz16_3 : wr.cell? ⟨gb442,3,none⟩ = some (.int .i64 t438):=(zCl BK442.out 3).trans rfl;have hcz16_4 : wr.cell? ⟨gb442,4,none⟩ = some (.int .i64 t439):=(zCl BK442.out 4).trans rfl;have hcz16_5 : wr.cell? ⟨gb442,5,none⟩ = some (.string t440):=(zCl BK442.out 5).trans rfl;have hfz16_0:=zFr BK442.out 0;have hfz16_1:=zFr BK442.out 1;have hfz16_2:=zFr BK442.out 2;have hfz16_3:=zFr BK442.out 3;have hfz16_4:=zFr BK442.out 4;have hfz16_5:=zFr BK442.out 5
     go_upto_if 44 with (first | (go_at_call 55;(with_reducible refine (impl_metaOf.calls k1 _ _ l0 a1 x10_1 t439 t443 t444 t445 t446 t447 t448 t449 _ ?side1 ?side2 A11.out).mono ?_);(case side1=>repeat (first | exact (Kd.C_below HR0.out HB.out) | (with_reducible refine Kd.C_alloc ?_ _) | (with_reducible refine Kd.C_drewN ?_ _) | (with_reducible refine Kd.C_drew ?_)));(case side2=>exact HC0.out);rintro e w17 ⟨rfl,hb⟩;have n0_:=zMk (blk_below (g:=gb434) (o:=.cells #[.int .i64 x435000_1,.int .i64 x435001_1,.slice none 0 0] 40 (0,0)) (bs BK434) hb);have n1_:=zMk (blk_below (g:=gb442) (o:=.cells #[.int .i64 t435,.int .i64 t436,.int .i64 t437,.int .i64 t438,.int .i64 t439,.string t440] 33 (0,0)) (bs BK442) hb);have n2_:=zMk (below_step (hs2 HB GE434 GE442) hb);clear BK434;clear BK442;clear HB;have BK434:=n0_;have BK442:=n1_;have HB:=n2_;clear n0_ n1_ n2_;(try clear hb);(try clear hb2);(try clear hk);(try clear hi)) | ((with_reducible refine gate_dst (N:=11) rfl ?_);refine box_event ?hg (N:=11) ?hd (cs:=#[.int .i64 0,.int .i64 0,.int .i64 0,.int .i64 0,.int .i64 0,.string (⟨#[]⟩ : ByteArray)]) (t:=33) ?hr ?_;(case hd=>rfl);(case hg=>rfl);(case hr=>first | (go_simp;done) | (go_simp;rfl));intro gb450 hg w18 hbox hb;have n0_:=zMk (blk_below (g:=gb434) (o:=.cells #[.int .i64 x435000_1,.int .i64 x435001_1,.slice none 0 0] 40 (0,0)) (bs BK434) hb);have n1_:=zMk (blk_below (g:=gb442) (o:=.cells #[.int .i64 t435,.int .i64 t436,.int .i64 t437,.int .i64 t438,.int .i64 t439,.string t440] 33 (0,0)) (bs BK442) hb);have n2_:=zMk (below_step (hs2 HB GE434 GE442) hb);have n3_:=zMk (hbox);have n4_:=zMk ((by rw [hg];exact (below_size (hs2 HB GE434 GE442)) : w.heap.size ≤ gb450));have n5_:=zMk ((by rw [hg];exact (below_size (hs2 HB GE434 GE442)) : w.heap.size ≤ gb450));have n6_:=zMk ((by rw [hg];exact Nat.ne_of_lt (blk_lt (g:=gb434) (o:=.cells #[.int .i64 x435000_1,.int .i64 x435001_1,.slice none 0 0] 40 (0,0)) (bs BK434)) : gb434 ≠ gb450));have n7_:=zMk ((by rw [hg];exact Nat.ne_of_gt (blk_lt (g:=gb434) (o:=.cells #[.int .i64 x435000_1,.int .i64 x435001_1,.slice none 0 0] 40 (0,0)) (bs BK434)) : gb450 ≠ gb434));have n8_:=zMk ((by rw [hg];exact Nat.ne_of_lt (blk_lt (g:=gb442) (o:=.cells #[.int .i64 t435,.int .i64 t436,.int .i64 t437,.int .i64 t438,.int .i64 t439,.string t440] 33 (0,0)) (bs BK442)) : gb442 ≠ gb450));have n9_:=zMk ((by rw [hg];exact Nat.ne_of_gt (blk_lt (g:=gb442) (o:=.cells #[.int .i64 t435,.int .i64 t436,.int .i64 t437,.int .i64 t438,.int .i64 t439,.string t440] 33 (0,0)) (bs BK442)) : gb450 ≠ gb442));clear BK434;clear BK442;clear HB;have BK434:=n0_;have BK442:=n1_;have HB:=n2_;have BK450:=n3_;have GW450:=n4_;have GE450:=n5_;have NB434_450:=n6_;have NB450_434:=n7_;have NB442_450:=n8_;have NB450_442:=n9_;clear n0_ n1_ n2_ n3_ n4_ n5_ n6_ n7_ n8_ n9_;clear hb hbox hg;have hnb19:=NB450_434.out;have hnc19:=NB434_450.out;have hnb20:=NB450_442.out;have hnc20:=NB442_450.out;have hcz21_0 : w18.cell? ⟨gb450,0,none⟩ = some (.int .i64 0):=(zCl BK450.out 0).trans rfl;have hcz21_1 : w18.cell? ⟨gb450,1,none⟩ = some (.int .i64 0):=(zCl BK450.out 1).trans rfl;have hcz21_2 : w18.cell? ⟨gb450,2,none⟩ = some (.int .i64 0):=(zCl BK450.out 2).trans rfl;have hcz21_3 : w18.cell? ⟨gb450,3,none⟩ = some (.int .i64 0):=(zCl BK450.out 3).trans rfl;have hcz21_4 : w18.cell? ⟨gb450,4,none⟩ = some (.int .i64 0):=(zCl BK450.out 4).trans rfl;have hcz21_5 : w18.cell? ⟨gb450,5,none⟩ = some (.string (⟨#[]⟩ : ByteArray)):=(zCl BK450.out 5).trans rfl;have hfz21_0:=zFr BK450.out 0;have hfz21_1:=zFr BK450.out 1;have hfz21_2:=zFr BK450.out 2;have hfz21_3:=zFr BK450.out 3;have hfz21_4:=zFr BK450.out 4;have hfz21_5:=zFr BK450.out 5) | ((fail_if_success go_not_at_region 4);go_quiet (fail)))
     (try simp only [Act.put,zS1,zS2,zS3])
     by_cases c12 : t449 = true
     ·subst c12;have H1 : (if x8_1.size + t448.size ≤ 9223372036854775807 then (impl_gathered.l0 k1 l0 a1 (x8_1 ++ t448) (mn x9_1 t444) (wrap64 (x10_1 + 1)) t435 t436 t437 t438 t439 t440) else (none)) = some (r1,r2,r3,r4):=by rw [if_pos rfl] at H;exact H
      clear H;have H:=H1;clear H1
      by_cases c13 : x8_1.size + t448.size ≤ 9223372036854775807
      ·rw [if_pos c13] at H;have c13b0:=eq_true c13;have c13b1 : decide (x8_1.size + t448.size ≤ 9223372036854775807) = true:=decide_eq_true c13
       try have c13b2 : (9223372036854775807 < x8_1.size + t448.size) = False:=eq_false (Nat.not_lt.2 c13)
       obtain ⟨ji14,hji14⟩ : ∃ j_ : Int,(mn x9_1 t444) = j_:=⟨_,rfl⟩;replace H : (impl_gathered.l0 k1 l0 a1 (x8_1 ++ t448) ji14 (wrap64 (x10_1 + 1)) t435 t436 t437 t438 t439 t440) = some (r1,r2,r3,r4):=by first | (rw [hji14] at H;exact H) | (simp only [hji14] at H ⊢;exact H)
       (try rw [hji14] at A11)
       have hji14_ : (if t444 < x9_1 then t444 else x9_1) = ji14:=hji14;have H':=zMk H;clear H;go_wp2_with ((fail_if_success go_not_at_region 4);go_quiet (fail));go_roundg k1;case measure=>have:=HK1.out;omega
       case rel=>exact ⟨(x8_1 ++ t448),(ji14),(wrap64 (x10_1 + 1)),(x435000_1),(x435001_1),(by first | rfl | (simp;done) | (simp [*];done)),(by first | rfl | (simp;done) | (simp only [← hji14] <;> (first | rfl | simp)) | (simp [*];done)),(by first | rfl | (simp;done) | (simp [*];done)),H',⟨by have:=HK1.out;omega⟩,⟨by (with_reducible repeat (first | refine blk_drewN ?_ _ | refine blk_drew ?_ | refine blk_alloc ?_ _));refine blk_far ?_ NB434_450.out _;(with_reducible repeat (first | refine blk_drewN ?_ _ | refine blk_drew ?_ | refine blk_alloc ?_ _));refine blk_far ?_ NB434_450.out _;(with_reducible repeat (first | refine blk_drewN ?_ _ | refine blk_drew ?_ | refine blk_alloc ?_ _));refine blk_far ?_ NB434_450.out _;(with_reducible repeat (first | refine blk_drewN ?_ _ | refine blk_drew ?_ | refine blk_alloc ?_ _));refine blk_far ?_ NB434_450.out _;(with_reducible repeat (first | refine blk_drewN ?_ _ | refine blk_drew ?_ | refine blk_alloc ?_ _));refine blk_far ?_ NB434_450.out _;(with_reducible repeat (first | refine blk_drewN ?_ _ | refine blk_drew ?_ | refine blk_alloc ?_ _));refine blk_far ?_ NB434_450.out _;(with_reducible repeat (first | refine blk_drewN ?_ _ | refine blk_drew ?_ | refine blk_alloc ?_ _));exact BK434.out⟩,⟨by (with_reducible repeat (first | refine blk_drewN ?_ _ | refine blk_drew ?_ | refine blk_alloc ?_ _));refine blk_far ?_ NB442_450.out _;(with_reducible repeat (first | refine blk_drewN ?_ _ | refine blk_drew ?_ | refine blk_alloc ?_ _));refine blk_far ?_ NB442_450.out _;(with_reducible repeat (first | refine blk_drewN ?_ _ | refine blk_drew ?_ | refine blk_alloc ?_ _));refine blk_far ?_ NB442_450.out _;(with_reducible repeat (first | refine blk_drewN ?_ _ | refine blk_drew ?_ | refine blk_alloc ?_ _));refine blk_far ?_ NB442_450.out _;(with_reducible repeat (first | refine blk_drewN ?_ _ | refine blk_drew ?_ | refine blk_alloc ?_ _));refine blk_far ?_ NB442_450.out _;(with_reducible repeat (first | refine blk_drewN ?_ _ | refine blk_drew ?_ | refine blk_alloc ?_ _));refine blk_far ?_ NB442_450.out _;(with_reducible repeat (first | refine blk_drewN ?_ _ | refine blk_drew ?_ | refine blk_alloc ?_ _));exact BK442.out⟩,⟨hs3 HB GE434 GE442 GE450⟩⟩
      rw [if_neg c13] at H;exact absurd H (by simp)
     replace c12:=Bool.eq_false_iff.mpr c12;subst c12;have H1 : (some (0,0,([] : List (S45)),false)) = some (r1,r2,r3,r4):=by rw [if_neg (show ¬ (false = true) by decide)] at H;exact H
     clear H;have H:=H1;clear H1;simp only [Option.some.injEq,Prod.mk.injEq] at H;obtain ⟨rfl,rfl,rfl,rfl⟩:=H;have hcz29_0 : w18.cell? ⟨gb434,0,none⟩ = some (.int .i64 x435000_1):=(zCl BK434.out 0).trans rfl;have hcz29_1 : w18.cell? ⟨gb434,1,none⟩ = some (.int .i64 x435001_1):=(zCl BK434.out 1).trans rfl;have hcz29_2 : w18.cell? ⟨gb434,2,none⟩ = some (.slice none 0 0):=(zCl BK434.out 2).trans rfl;have hfz29_0:=zFr BK434.out 0;have hfz29_1:=zFr BK434.out 1;have hfz29_2:=zFr BK434.out 2;go_wp2_with ((fail_if_success go_not_at_region 4);go_quiet (fail));refine bodyPost_ret (results_ct rfl _ _ gb434 40 #[.int .i64 0,.int .i64 0,.slice none 0 0] (0,0) _ rfl (by (with_reducible repeat (first | refine blk_drewN ?_ _ | refine blk_drew ?_ | refine blk_alloc ?_ _));refine blk_put (cs:=#[.int .i64 0,.int .i64 0,.slice none 0 0]) ?_ 2 _ rfl;(with_reducible repeat (first | refine blk_drewN ?_ _ | refine blk_drew ?_ | refine blk_alloc ?_ _));refine blk_put (cs:=#[.int .i64 0,.int .i64 x435001_1,.slice none 0 0]) ?_ 1 _ rfl;(with_reducible repeat (first | refine blk_drewN ?_ _ | refine blk_drew ?_ | refine blk_alloc ?_ _));refine blk_put (cs:=#[.int .i64 x435000_1,.int .i64 x435001_1,.slice none 0 0]) ?_ 0 _ rfl;(with_reducible repeat (first | refine blk_drewN ?_ _ | refine blk_drew ?_ | refine blk_alloc ?_ _));refine blk_far ?_ NB434_450.out _;(with_reducible repeat (first | refine blk_drewN ?_ _ | refine blk_drew ?_ | refine blk_alloc ?_ _));refine blk_far ?_ NB434_450.out _;(with_reducible repeat (first | refine blk_drewN ?_ _ | refine blk_drew ?_ | refine blk_alloc ?_ _));refine blk_far ?_ NB434_450.out _;(with_reducible repeat (first | refine blk_drewN ?_ _ | refine blk_drew ?_ | refine blk_alloc ?_ _));refine blk_far ?_ NB434_450.out _;(with_reducible repeat (first | refine blk_drewN ?_ _ | refine blk_drew ?_ | refine blk_alloc ?_ _));refine blk_far ?_ NB434_450.out _;(with_reducible repeat (first | refine blk_drewN ?_ _ | refine blk_drew ?_ | refine blk_alloc ?_ _));refine blk_far ?_ NB434_450.out _;(with_reducible repeat (first | refine blk_drewN ?_ _ | refine blk_drew ?_ | refine blk_alloc ?_ _));exact BK434.out) Try.underlying40 rfl (by kernel_rfl)) rfl ?_;exact ⟨_,by first | rfl | (simp [errW_none,errW_some] <;> rfl) | (simp [*,errW_none,errW_some] <;> rfl),by first | exact Kd.R_nil _ _ _ _ _ | exact Kd.N_nil _ _ _ _ _ | exact Kd.V_nil _ _ _ _ _ | exact Kd.Q_nil _ _ _ _ _ | exact Kd.S_nil _ _ _ _ _,hs3 HB GE434 GE442 GE450⟩
    rw [if_neg c10] at H;have c10b0 : decide (x10_1 < t439) = false:=decide_eq_false c10;clear c10;replace H:=Option.bind_eq_some_iff.mp H;obtain ⟨⟨t451,t452⟩,A300,H⟩:=H;replace H : (some (a1,x9_1,t451,t452)) = some (r1,r2,r3,r4):=H;have A30:=zMk A300;clear A300;simp only [Option.some.injEq,Prod.mk.injEq] at H;obtain ⟨rfl,rfl,rfl,rfl⟩:=H;have hnb31:=NB442_434.out;have hnc31:=NB434_442.out;have hcz32_0 : wr.cell? ⟨gb442,0,none⟩ = some (.int .i64 t435):=(zCl BK442.out 0).trans rfl;have hcz32_1 : wr.cell? ⟨gb442,1,none⟩ = some (.int .i64 t436):=(zCl BK442.out 1).trans rfl;have hcz32_2 : wr.cell? ⟨gb442,2,none⟩ = some (.int .i64 t437):=(zCl BK442.out 2).trans rfl;have hcz32_3 : wr.cell? ⟨gb442,3,none⟩ = some (.int .i64 t438):=(zCl BK442.out 3).trans rfl;have hcz32_4 : wr.cell? ⟨gb442,4,none⟩ = some (.int .i64 t439):=(zCl BK442.out 4).trans rfl;have hcz32_5 : wr.cell? ⟨gb442,5,none⟩ = some (.string t440):=(zCl BK442.out 5).trans rfl;have hfz32_0:=zFr BK442.out 0;have hfz32_1:=zFr BK442.out 1;have hfz32_2:=zFr BK442.out 2;have hfz32_3:=zFr BK442.out 3;have hfz32_4:=zFr BK442.out 4;have hfz32_5:=zFr BK442.out 5;go_wp2_with (first | (go_at_call 56;(with_reducible refine (impl_ReadRecs.calls k1 x8_1 t451 t452 _ A30.out).mono ?_);rintro e w33 ⟨v453,rfl,ho0,hb⟩;have n0_:=zMk (Kd.R_lower ho0 (below_size (hs2 HB GE434 GE442)));have n1_:=zMk (blk_below (g:=gb434) (o:=.cells #[.int .i64 x435000_1,.int .i64 x435001_1,.slice none 0 0] 40 (0,0)) (bs BK434) hb);have n2_:=zMk (blk_below (g:=gb442) (o:=.cells #[.int .i64 t435,.int .i64 t436,.int .i64 t437,.int .i64 t438,.int .i64 t439,.string t440] 33 (0,0)) (bs BK442) hb);have n3_:=zMk (below_step (hs2 HB GE434 GE442) hb);clear BK434;clear BK442;clear HB;have HO454:=n0_;have BK434:=n1_;have BK442:=n2_;have HB:=n3_;clear n0_ n1_ n2_ n3_;(try clear hb);(try clear hb2);(try clear hk);(try clear hi);(try clear ho0);obtain ⟨Ao34,co34,eo34⟩:=Kd.R_slice HO454.out;subst eo34;have hcz35_0 : w33.cell? ⟨gb434,0,none⟩ = some (.int .i64 x435000_1):=(zCl BK434.out 0).trans rfl;have hcz35_1 : w33.cell? ⟨gb434,1,none⟩ = some (.int .i64 x435001_1):=(zCl BK434.out 1).trans rfl;have hcz35_2 : w33.cell? ⟨gb434,2,none⟩ = some (.slice none 0 0):=(zCl BK434.out 2).trans rfl;have hfz35_0:=zFr BK434.out 0;have hfz35_1:=zFr BK434.out 1;have hfz35_2:=zFr BK434.out 2) | ((fail_if_success go_not_at_region 4);go_quiet (fail)));refine bodyPost_ret (results_ct rfl _ _ gb434 40 #[.int .i64 a1,.int .i64 x9_1,.slice Ao34 t451.length co34] (0,0) _ rfl (by (with_reducible repeat (first | refine blk_drewN ?_ _ | refine blk_drew ?_ | refine blk_alloc ?_ _));refine blk_put (cs:=#[.int .i64 a1,.int .i64 x9_1,.slice none 0 0]) ?_ 2 _ rfl;(with_reducible repeat (first | refine blk_drewN ?_ _ | refine blk_drew ?_ | refine blk_alloc ?_ _));refine blk_put (cs:=#[.int .i64 a1,.int .i64 x435001_1,.slice none 0 0]) ?_ 1 _ rfl;(with_reducible repeat (first | refine blk_drewN ?_ _ | refine blk_drew ?_ | refine blk_alloc ?_ _));refine blk_put (cs:=#[.int .i64 x435000_1,.int .i64 x435001_1,.slice none 0 0]) ?_ 0 _ rfl;(with_reducible repeat (first | refine blk_drewN ?_ _ | refine blk_drew ?_ | refine blk_alloc ?_ _));exact BK434.out) Try.underlying40 rfl (by kernel_rfl)) rfl ?_;exact ⟨_,by first | rfl | (simp [errW_none,errW_some] <;> rfl) | (simp [*,errW_none,errW_some] <;> rfl),by (with_reducible repeat (first | apply Kd.R_alloc | apply Kd.R_drewN | apply Kd.R_drew));exact Kd.R_mono (Kd.R_far (p:=⟨gb434,2,none⟩) (Kd.R_far (p:=⟨gb434,1,none⟩) (Kd.R_far (p:=⟨gb434,0,none⟩) (Kd.R_types HO454.out BK434.out (by decide)) (fun _ hk=>hk.2) (.int .i64 a1)) (fun _ hk=>hk.2) (.int .i64 x9_1)) (fun _ hk=>hk.2) (.slice Ao34 t451.length co34)) (fun _ hk=>trivial),hs2 HB GE434 GE442⟩
 replace c4:=Bool.eq_false_iff.mpr c4;subst c4;have H1 : (some (0,0,([] : List (S45)),false)) = some (r1,r2,r3,r4):=by rw [if_neg (show ¬ (false = true) by decide)] at H;exact H
 clear H;have H:=H1;clear H1;simp only [Option.some.injEq,Prod.mk.injEq] at H;obtain ⟨rfl,rfl,rfl,rfl⟩:=H;have hcz41_0 : w7.cell? ⟨gb434,0,none⟩ = some (.int .i64 0):=(zCl BK434.out 0).trans rfl;have hcz41_1 : w7.cell? ⟨gb434,1,none⟩ = some (.int .i64 0):=(zCl BK434.out 1).trans rfl;have hcz41_2 : w7.cell? ⟨gb434,2,none⟩ = some (.slice none 0 0):=(zCl BK434.out 2).trans rfl;have hfz41_0:=zFr BK434.out 0;have hfz41_1:=zFr BK434.out 1;have hfz41_2:=zFr BK434.out 2;go_wp2_with ((fail_if_success go_not_at_region 4);go_quiet (fail));refine bodyPost_ret (results_ct rfl _ _ gb434 40 #[.int .i64 0,.int .i64 0,.slice none 0 0] (0,0) _ rfl (by (with_reducible repeat (first | refine blk_drewN ?_ _ | refine blk_drew ?_ | refine blk_alloc ?_ _));refine blk_put (cs:=#[.int .i64 0,.int .i64 0,.slice none 0 0]) ?_ 2 _ rfl;(with_reducible repeat (first | refine blk_drewN ?_ _ | refine blk_drew ?_ | refine blk_alloc ?_ _));refine blk_put (cs:=#[.int .i64 0,.int .i64 0,.slice none 0 0]) ?_ 1 _ rfl;(with_reducible repeat (first | refine blk_drewN ?_ _ | refine blk_drew ?_ | refine blk_alloc ?_ _));refine blk_put (cs:=#[.int .i64 0,.int .i64 0,.slice none 0 0]) ?_ 0 _ rfl;(with_reducible repeat (first | refine blk_drewN ?_ _ | refine blk_drew ?_ | refine blk_alloc ?_ _));refine blk_far ?_ NB434_442.out _;(with_reducible repeat (first | refine blk_drewN ?_ _ | refine blk_drew ?_ | refine blk_alloc ?_ _));refine blk_far ?_ NB434_442.out _;(with_reducible repeat (first | refine blk_drewN ?_ _ | refine blk_drew ?_ | refine blk_alloc ?_ _));refine blk_far ?_ NB434_442.out _;(with_reducible repeat (first | refine blk_drewN ?_ _ | refine blk_drew ?_ | refine blk_alloc ?_ _));refine blk_far ?_ NB434_442.out _;(with_reducible repeat (first | refine blk_drewN ?_ _ | refine blk_drew ?_ | refine blk_alloc ?_ _));refine blk_far ?_ NB434_442.out _;(with_reducible repeat (first | refine blk_drewN ?_ _ | refine blk_drew ?_ | refine blk_alloc ?_ _));refine blk_far ?_ NB434_442.out _;(with_reducible repeat (first | refine blk_drewN ?_ _ | refine blk_drew ?_ | refine blk_alloc ?_ _));exact BK434.out) Try.underlying40 rfl (by kernel_rfl)) rfl ?_;exact ⟨_,by first | rfl | (simp [errW_none,errW_some] <;> rfl) | (simp [*,errW_none,errW_some] <;> rfl),by first | exact Kd.R_nil _ _ _ _ _ | exact Kd.N_nil _ _ _ _ _ | exact Kd.V_nil _ _ _ _ _ | exact Kd.Q_nil _ _ _ _ _ | exact Kd.S_nil _ _ _ _ _,hs2 HB GE434 GE442⟩
end Go.Proofs.Ytodokejcmbjpbaa.PK

/- Rows whose elements' inner rows lie apart: a field of an element stored, and an element's own row written by a call. -/
namespace Go.Proofs.YtodokejcmbjpbaaW.PrintWords
open Go.RowKit
namespace Kd
section
variable {α : Type} {d : Kd α} {e g n cap : Nat} {w W w' : World} {base : Nat} {ok oki : Nat → Prop} {v : Value} {xs : List α} {i : Int} {c : List Value}
/-- One field of element i is stored. -/
theorem S_field (h : S d e W base ok (.slice (some ⟨g, 0, none⟩) n cap) xs) (z : α) (i : Int) (h0 : 0 ≤ i) (h1 : i < n) (j : Nat) (u : Value) (hj : j + [u].length ≤ d.sz) {x' : α}
    (hM : ∀ (okp : Nat → Prop) (c : List Value), d.M W base okp (xs.getD i.toNat z) c → d.M W base okp x' (c.take j ++ [u] ++ c.drop (j + [u].length))) :
    S d e (W.setCell ⟨g, i.toNat * d.sz + j, none⟩ u) base ok (.slice (some ⟨g, 0, none⟩) n cap) (xs.set i.toNat x') ∧ W.grownBy (W.setCell ⟨g, i.toNat * d.sz + j, none⟩ u) (some g) := by
  have hS : S d e W base (fun k => ok k ∧ ¬ (fun _ => False) k) (.slice (some ⟨g, 0, none⟩) n cap) xs := S_mono h (fun k hk => ⟨hk, fun h => h⟩)
  obtain ⟨oki, c, _, hMc, _, _, _, hH⟩ := S_elem hS z i h0 h1
  have r := S_seg (seg := [u]) (j := j) hH h0 h1 hj (hM oki c hMc) (fun _ hk => .inl hk) (fun _ hk => hk.elim)
  exact r
/-- What element i leads to was written by a call that keeps all else. -/
theorem S_called (hH : H d e W base ok v xs i oki c) (hk : Kept W w' oki) {x' : α} (hM : d.M w' base (fun k => oki k ∨ W.heap.size ≤ k) x' c) (hok : ∀ k, W.heap.size ≤ k → ok k) : S d e w' base ok v (xs.set i.toNat x') :=
  H_back (H_kept (H_widen hH) hk (fun _ _ hn hS => hn (.inl hS))) hM (fun k hk => hk.imp id (fun h => ⟨hok k h, h⟩))
/-- Cells of element i are stored; what they lead to is new to the row. -/
theorem S_put (h : S d e W base ok (.slice (some ⟨g, 0, none⟩) n cap) xs) (z : α) (i : Int) (h0 : 0 ≤ i) (h1 : i < n) (j : Nat) (seg : List Value) (hj : j + seg.length ≤ d.sz) {okv : Nat → Prop} (hap : ∀ k, ok k → okv k → False) (hg : ∀ k, okv k → k ≠ g) {x' : α}
    (hM : ∀ (okp : Nat → Prop) (c : List Value), d.M W base okp (xs.getD i.toNat z) c → d.M W base (fun k => okp k ∨ okv k) x' (c.take j ++ seg ++ c.drop (j + seg.length))) :
    S d e (W.setCells g (i.toNat * d.sz + j) seg) base (fun k => ok k ∨ okv k) (.slice (some ⟨g, 0, none⟩) n cap) (xs.set i.toNat x') ∧ W.grownBy (W.setCells g (i.toNat * d.sz + j) seg) (some g) := by
  have hS : S d e W base (fun k => (ok k ∨ okv k) ∧ ¬ okv k) (.slice (some ⟨g, 0, none⟩) n cap) xs := S_mono h (fun k hk => ⟨.inl hk, fun h2 => hap k hk h2⟩)
  obtain ⟨oki, c, _, hMc, _, _, _, hH⟩ := S_elem hS z i h0 h1
  exact S_seg (okg := okv) hH h0 h1 hj (hM oki c hMc) (fun _ hk => hk) (fun k hk => ⟨.inr hk, hg k hk⟩)
/-- Two rows that came at once, of types apart: their blocks are apart. -/
theorem two_apart {β : Type} {d' : Kd β} {e' : Nat} {base' : Nat} {ok' : Nat → Prop} {v' : Value} {ys : List β} (h : d.R e w base ok v xs) (h' : S d' e' w base' ok' v' ys) (ht : ∀ q, q ∈ e :: d.E → ∀ q', q' ∈ e' :: d'.E → q ≠ q') :
    ∃ TA TB : Nat → Prop, (∀ k, TA k → TB k → False) ∧ d.R e w base (fun k => (base ≤ k ∧ k < w.heap.size) ∧ TA k) v xs ∧ S d' e' w base' (fun k => (base' ≤ k ∧ k < w.heap.size) ∧ TB k) v' ys := by
  refine ⟨fun k => ∃ q, q ∈ e :: d.E ∧ ∃ cells, w.heap[k]? = some (.cells cells q (0, 0)), fun k => ∃ q, q ∈ e' :: d'.E ∧ ∃ cells, w.heap[k]? = some (.cells cells q (0, 0)), ?_, R_mono (R_bound h) (fun k hk => ⟨⟨hk.2.1, hk.2.2.1⟩, hk.2.2.2⟩), S_mono (S_bound h') (fun k hk => ⟨⟨hk.2.1, hk.2.2.1⟩, hk.2.2.2⟩)⟩
  rintro k ⟨q, hq, c, hc⟩ ⟨q', hq', c', hc'⟩
  rw [hc] at hc'
  injection hc' with hc'
  injection hc' with h1 h2 h3
  exact ht q hq q' hq' h2
/-- Two rows that came at once, the second one's block none of the first one's. -/
theorem two_told {β : Type} {d' : Kd β} {e' : Nat} {base' : Nat} {ok' : Nat → Prop} {v' : Value} {ys : List β} (h : S d e w base (fun k => some k ≠ v'.ownBlock) v xs) (h' : d'.R e' w base' ok' v' ys) (hE : d'.E = []) :
    ∃ TA TB : Nat → Prop, (∀ k, TA k → TB k → False) ∧ S d e w base (fun k => (base ≤ k ∧ k < w.heap.size) ∧ TA k) v xs ∧ d'.R e' w base' (fun k => (base' ≤ k ∧ k < w.heap.size) ∧ TB k) v' ys :=
  ⟨fun k => some k ≠ v'.ownBlock, fun k => some k = v'.ownBlock, fun k h1 h2 => h1 h2, S_mono (S_bound h) (fun k hk => ⟨⟨hk.2.1, hk.2.2.1⟩, hk.1⟩), R_mono (R_bound (R_tight hE h')) (fun k hk => ⟨⟨hk.2.1, hk.2.2.1⟩, hk.1⟩)⟩
end
section
variable {P : Program} {ops : Array Oper} {rest : List Oper} {o : Oper} {a : Act} {Q : Exit → Act → World → Prop} {α : Type}
/-- A literal of two elements that lead to rows apart. -/
theorem S_lit2 (d : Kd α) {w0 W : World} (base e : Nat) (hgd : o.guard = none) {N : Tmp} (hd : o.dst = some N) {x y : α} {cx cy : List Value} {okx oky : Nat → Prop}
    (hrun : (execOp a.eval o).run P W = .ok (.value (.slice (some ⟨W.heap.size, 0, none⟩) 2 2)) (W.alloc (.cells (cx ++ cy).toArray e)))
    (hx : d.M W base okx x cx) (hy : d.M W base oky y cy) (hap : ∀ k, okx k → oky k → False) (HB : Below base w0 W) (hbase : base ≤ W.heap.size)
    (h : ∀ v1 w1, S d e w1 base (fun k => (okx k ∨ oky k) ∨ W.heap.size ≤ k) v1 [x, y] → Below base w0 w1 → Below W.heap.size W w1 → wpList P ops Q rest (a.put o.dst v1) w1) : wpList P ops Q (o :: rest) a W := by
  have lx : cx.length = d.sz := d.K_len (d.K_of_M hx)
  have ly : cy.length = d.sz := d.K_len (d.K_of_M hy)
  refine S_lits d base e hgd hd (xs := [x, y]) (inner := cx ++ cy) (ok := fun k => (okx k ∨ oky k) ∨ W.heap.size ≤ k) (fun j k => (j = 0 ∧ okx k) ∨ (j = 1 ∧ oky k)) hrun (by rw [List.length_append, lx, ly]; simp; omega) ?_ ?_ ?_ (.inr (Nat.le_refl _)) HB hbase (by simp) (fun v1 w1 hS hb hg _ => h v1 w1 hS hb ⟨hg.os, hg.tape, hg.output, hg.size, fun i hi => hg.block i hi (by simp)⟩)
  · intro j z hz
    rcases j with _ | _ | j
    · obtain rfl : x = z := Option.some.inj hz
      rw [Nat.zero_mul, List.drop_zero, ← lx, List.take_left]
      exact d.M_mono (fun k hk => .inl ⟨rfl, hk⟩) hx
    · obtain rfl : y = z := Option.some.inj hz
      rw [Nat.zero_add, Nat.one_mul, ← lx, List.drop_left, lx, ← ly, List.take_length]
      exact d.M_mono (fun k hk => .inr ⟨rfl, hk⟩) hy
    · simp at hz
  · rintro i j k (⟨rfl, h1⟩ | ⟨rfl, h1⟩) (⟨rfl, h2⟩ | ⟨rfl, h2⟩)
    · rfl
    · exact (hap k h1 h2).elim
    · exact (hap k h2 h1).elim
    · rfl
  · rintro j k (⟨_, h1⟩ | ⟨_, h1⟩)
    · exact .inl (.inl h1)
    · exact .inl (.inr h1)
open Classical in
/-- append(v, x...), behind 'at_builtin': x's elements lead to rows that lie apart, none of them v's. -/
theorem S_append_rows (d : Kd α) {w0 W : World} (base : Nat) (hgd : o.guard = none) (s x : Operand) (t e : TypeId) (z : Value) (bytes : Nat)
    (ho : o.op = .call { callee := .builtin .append, args := #[s, x], argTypes := #[t, t] })
    (ht : P.underlying t = some (.slice e)) (hinfo : (P.info? e).map (fun i => (i.zero, i.size, i.bytes)) = some (some z, d.sz, bytes)) (hz : z.cells.size = d.sz) (hs0 : 0 < d.sz) (hb0 : 0 < bytes)
    (v : Value) (xs ys : List α) (A : Option Addr) (m c : Nat) (ok okv oku : Nat → Prop) (hs : a.eval s = v) (hx : a.eval x = .slice A m c)
    (HO : S d e W base okv v xs) (H2 : S d e W base oku (.slice A m c) ys) (hap : ∀ k, okv k → oku k → False) (h1 : ∀ k, okv k → ok k) (h2 : ∀ k, oku k → ok k) (hfresh : ∀ k, W.heap.size ≤ k → ok k)
    (HB : Below base w0 W) (hbase : base ≤ W.heap.size) (hl : (xs.length + m) * bytes ≤ 140737488355328)
    (h : ∀ v1 w1, S d e w1 base ok v1 (xs ++ ys) → Below base w0 w1 → W.grownBy w1 v.ownBlock → (v1.ownBlock = v.ownBlock ∨ ∃ b, v1.ownBlock = some b ∧ W.heap.size ≤ b) → wpList P ops Q rest (a.put o.dst v1) w1) :
    wpList P ops Q (o :: rest) a W := by
  obtain ⟨f1, R1⟩ := HO
  obtain ⟨f2, R2⟩ := H2
  have R1' : (tag (fun k => if oku k then f2 k + xs.length else f1 k) d).R e W base okv v xs.zipIdx := R_tag R1 (fun k hk _ => if_neg (fun h => hap k hk h))
  have hm := (R_reads' R2).1
  rw [List.length_zipIdx] at hm
  obtain ⟨_, inner, ho2, hr2⟩ := R2
  obtain ⟨A', c', he, hR2⟩ := own_reads_row ho2 hr2 rfl
  injection he with ea en ec
  subst ea
  have HR : ReadsRow (fun p cs => (tag (fun k => if oku k then f2 k + xs.length else f1 k) d).M W base oku p cs) (tag (fun k => if oku k then f2 k + xs.length else f1 k) d).sz W A m (ys.zipIdx xs.length) := by
    refine ⟨by rw [List.length_zipIdx]; exact hm.symm, by have := hR2.2.1; omega, fun hn => ?_⟩
    obtain ⟨ad, e2, hc⟩ := hR2.2.2 (by omega)
    refine ⟨ad, e2, fun j p hj => ?_⟩
    rw [List.getElem?_zipIdx] at hj
    obtain ⟨y, hy, rfl⟩ := Option.map_eq_some_iff.1 hj
    obtain ⟨cs, hl2, hM, hcell⟩ := hc j (y, j) (zip_at hy)
    refine ⟨cs, hl2, ?_, hcell⟩
    refine d.M_mono (fun k hk => ⟨hk.1.1, ?_⟩) hM
    show (if oku k then f2 k + xs.length else f1 k) = xs.length + j
    have h3 : f2 k = j := hk.2
    rw [if_pos hk.1.1, h3, Nat.add_comm]
  refine R_append_rows (tag (fun k => if oku k then f2 k + xs.length else f1 k) d) base hgd s x t e z bytes ho ht hinfo hz hs0 hb0 v xs.zipIdx (ys.zipIdx xs.length) A m c ok oku hs hx (R_mono R1' h1) HR (fun _ _ h => h) (fun k hk => ⟨h2 k hk, fun he => hap k (R1.1 k he.symm) hk⟩) hfresh HB hbase (by rw [List.length_zipIdx]; exact hl) ?_
  intro v1 w1 hr
  rw [show xs.zipIdx ++ ys.zipIdx xs.length = (xs ++ ys).zipIdx from by rw [List.zipIdx_append]; simp] at hr
  exact h v1 w1 ⟨_, hr⟩
end
end Kd
end Go.Proofs.YtodokejcmbjpbaaW.PrintWords

namespace Go.Proofs.Ytodokejcmbjpbaa.PK
open Go.Shelf Go.RowKit Go.Proofs.YtodokejcmbjpbaaW.PrintWords
def lays191_ren : Go.Shelf.Ren:=⟨fun | 191=>36 | 189=>54 | 125=>65 | 257=>64 | 128=>78 | 129=>79 | 294=>69 | 295=>70 | 296=>71 | 297=>72 | 298=>73 | 299=>74 | 216=>75 | 300=>76 | 301=>77 | 328=>81 | 329=>82 | 330=>83 | 331=>84 | 332=>85 | 215=>86 | 343=>87 | n=>n,fun | 28=>26 | 0=>0 | 3=>3 | 46=>82 | 51=>112 | 53=>114 | 4=>4 | 183=>104 | 182=>103 | 131=>109 | 5=>5 | 9=>9 | 218=>115 | 222=>119 | 228=>122 | 229=>123 | n=>n,fun n=>n⟩
theorem lays191 : Lays.n191 Try.prog lays191_ren where
 mixed:=by kernel_rfl
 f125:=Try.func65.trans (congrArg some (by kernel_rfl))
 f128:=Try.func78.trans (congrArg some (by kernel_rfl))
 f129:=Try.func79.trans (congrArg some (by kernel_rfl))
 f189:=Try.func54.trans (congrArg some (by kernel_rfl))
 f191:=Try.func36.trans (congrArg some (by kernel_rfl))
 f215:=Try.func86.trans (congrArg some (by kernel_rfl))
 f216:=Try.func75.trans (congrArg some (by kernel_rfl))
 f257:=Try.func64.trans (congrArg some (by kernel_rfl))
 f294:=Try.func69.trans (congrArg some (by kernel_rfl))
 f295:=Try.func70.trans (congrArg some (by kernel_rfl))
 f296:=Try.func71.trans (congrArg some (by kernel_rfl))
 f297:=Try.func72.trans (congrArg some (by kernel_rfl))
 f298:=Try.func73.trans (congrArg some (by kernel_rfl))
 f299:=Try.func74.trans (congrArg some (by kernel_rfl))
 f300:=Try.func76.trans (congrArg some (by kernel_rfl))
 f301:=Try.func77.trans (congrArg some (by kernel_rfl))
 f328:=Try.func81.trans (congrArg some (by kernel_rfl))
 f329:=Try.func82.trans (congrArg some (by kernel_rfl))
 f330:=Try.func83.trans (congrArg some (by kernel_rfl))
 f331:=Try.func84.trans (congrArg some (by kernel_rfl))
 f332:=Try.func85.trans (congrArg some (by kernel_rfl))
 f343:=Try.func87.trans (congrArg some (by kernel_rfl))
 t0:=Try.underlying0
 a0:=Try.isAgg0
 z0:=Try.sizeOf0
 v0:=Try.zeroValue0
 t3:=Try.underlying3
 a3:=Try.isAgg3
 z3:=Try.sizeOf3
 v3:=Try.zeroValue3
 t4:=Try.underlying4
 a4:=Try.isAgg4
 z4:=Try.sizeOf4
 v4:=Try.zeroValue4
 t5:=Try.underlying5
 a5:=Try.isAgg5
 z5:=Try.sizeOf5
 v5:=Try.zeroValue5
 t9:=Try.underlying9
 a9:=Try.isAgg9
 z9:=Try.sizeOf9
 v9:=Try.zeroValue9
 t28:=Try.underlying26
 a28:=Try.isAgg26
 z28:=Try.sizeOf26
 v28:=Try.zeroValue26
 t46:=Try.underlying82
 a46:=Try.isAgg82
 z46:=Try.sizeOf82
 v46:=Try.zeroValue82
 t51:=Try.underlying112
 a51:=Try.isAgg112
 z51:=Try.sizeOf112
 v51:=Try.zeroValue112
 t53:=Try.underlying114
 a53:=Try.isAgg114
 z53:=Try.sizeOf114
 v53:=Try.zeroValue114
 t131:=Try.underlying109
 a131:=Try.isAgg109
 z131:=Try.sizeOf109
 v131:=Try.zeroValue109
 t182:=Try.underlying103
 a182:=Try.isAgg103
 z182:=Try.sizeOf103
 v182:=Try.zeroValue103
 t183:=Try.underlying104
 a183:=Try.isAgg104
 z183:=Try.sizeOf104
 v183:=Try.zeroValue104
 t218:=Try.underlying115
 a218:=Try.isAgg115
 z218:=Try.sizeOf115
 v218:=Try.zeroValue115
 t222:=Try.underlying119
 a222:=Try.isAgg119
 z222:=Try.sizeOf119
 v222:=Try.zeroValue119
 t228:=Try.underlying122
 a228:=Try.isAgg122
 z228:=Try.sizeOf122
 v228:=Try.zeroValue122
 t229:=Try.underlying123
 a229:=Try.isAgg123
 z229:=Try.sizeOf123
 v229:=Try.zeroValue123
def sort_Ints.f (_ : Nat) (l0 : List Int) : Option (List Int):=if l0.length < 4611686018427387904 then some (l0.mergeSort fun x y=>decide (x ≤ y)) else none
theorem sort_Ints.mono : ∀ a0 k,LeO (sort_Ints.f k a0) (sort_Ints.f (k + 1) a0):=fun _ _=>LeO.refl _
theorem reps_ints : ∀ {l : List Int} {cs : List Value},Reps (fun x c=>c = [Value.int .i64 x]) 1 l cs → cs = l.map (Value.int .i64):=by
 intro l cs h;obtain ⟨h1,h2⟩:=h;apply List.ext_getElem
 ·simp;omega
 intro j g1 g2;have g3 : j < l.length:=by simpa using g2
 have h3:=h2 j l[j] (List.getElem?_eq_getElem g3);rw [Nat.mul_one,List.take_one,List.head?_drop,List.getElem?_eq_getElem g1] at h3;have h4 : [cs[j]] = [Value.int .i64 l[j]]:=h3;rw [List.getElem_map];exact List.head_eq_of_cons_eq h4
theorem ints_reps (l : List Int) : Reps (fun x c=>c = [Value.int .i64 x]) 1 l (l.map (Value.int .i64)):=by
 refine ⟨by simp,fun j p hp=>?_⟩;rw [Nat.mul_one,List.take_one,List.head?_drop,List.getElem?_map,hp];rfl
theorem sort_Ints.calls (k : Nat) (P0_ : Nat → Prop) (u0_ : Value) (l0 : List Int) (r1 : List Int) (w0 w : World) (hB : Below w0.heap.size w0 w) (ho0 : Kd.R (Kd.int .i64) 3 w w0.heap.size P0_ u0_ l0) (h : sort_Ints.f k l0 = some r1) :
  Calls Try.prog 36 #[u0_] w fun e w'=>e = .returned (.tuple #[]) ∧ Kd.R (Kd.int .i64) 3 w' w0.heap.size (fun k_=>(P0_ k_ ∨ w.heap.size ≤ k_)) u0_ r1 ∧ Below w0.heap.size w0 w' ∧ Kept w w' (fun k_=>P0_ k_):=by
 unfold sort_Ints.f at h
 by_cases hlt : l0.length < 4611686018427387904
 case neg=>rw [if_neg hlt] at h;cases h
 rw [if_pos hlt] at h;obtain rfl:=Option.some.inj h;obtain ⟨hP,inner,ho,hr⟩:=ho0;obtain rfl:=reps_ints hr;rcases ho.2 with ⟨rfl,hl⟩ | ⟨g,cap,cur,rfl,hg,hb,h1,h2,h3,ht⟩
 ·obtain rfl : l0 = []:=List.length_eq_zero_iff.1 hl;refine (Any.sort_Ints_none lays191 none 0 w).mono fun e w' ⟨he,hw⟩=>?_;subst hw;exact ⟨he,by rw [show ([] : List Int).mergeSort (fun x y=>decide (x ≤ y)) = [] by simp];exact Kd.R_nil _ _ _ _ _,hB,Kept.refl _ _⟩
 have hH : Go.Sort.Holds (Value.int .i64) w g 0 l0.toArray:=holds_of_blockI hb (by have ht' : cur.toList.take (l0.length * 1) = l0.map (Value.int .i64):=ht;rw [Nat.mul_one] at ht';exact ht');have hlen : (l0.mergeSort fun x y=>decide (x ≤ y)).length = l0.length:=List.length_mergeSort l0;refine (Any.sort_Ints lays191 g 0 cap l0 w hH (blk_lt hb) hlt).mono fun e w' ⟨he,n,os,hw⟩=>?_;subst hw;have hgr:=grownBy_sortedI (w:=w) (g:=g) (n:=n) (os:=os) (l0.mergeSort fun x y=>decide (x ≤ y)).toArray;refine ⟨he,⟨fun k hk=>.inl (hP k hk),(l0.mergeSort fun x y=>decide (x ≤ y)).map (Value.int .i64),?_,ints_reps _⟩,?_,?_⟩
 ·have:=ownsRow_sortedI (n:=n) (os:=os) hlen hg hb h1 h2 h3;rw [hlen];exact this
 ·exact ⟨hgr.1.trans hB.os,hgr.2.trans hB.tape,hgr.3.trans hB.output,Nat.le_trans hB.size hgr.size,fun k hk=>(hgr.block k (Nat.lt_of_lt_of_le hk hB.size) (by intro e2;injection e2 with e2;omega)).trans (hB.block k hk)⟩
 exact Kept.of_grown hgr (Kept.refl _ _) fun k hk=>.inl (hP k hk)
end Go.Proofs.Ytodokejcmbjpbaa.PK

namespace Go.Proofs.Ytodokejcmbjpbaa.PK
open Go.RowKit Go.Proofs.YtodokejcmbjpbaaW.PrintWords Go.Proofs.YtodokejcmbjpbaaW.PrintLast Go.Proofs.YtodokejcmbjpbaaW.PrintMore
attribute [local go_sem] max2_int min2_int max_two min_two max_three min_three max_four min_four
mutual
def impl_Gather.l0 : Nat → List (S36) → List Int → List (S36) → Int → Int → Option ((List (S40)))
 | 0,_,_,_,_,_=>none
 | k + 1,x0,x3,x11,x12,x13=>if x13 < x12 then (if 0 ≤ x13 then (if x13 < (x11.length : Int) then (if ((rd_T36 x11 x13).f2.f0) = 2 then ((impl_hasInt.f k x3 ((rd_T36 x11 x13).f2.f2)).bind fun t457=>(if t457 = true then (impl_Gather.l0 k x0 x3 x11 x12 (wrap64 (x13 + 1))) else (if x3.length < 17592186044416 then (impl_Gather.l0 k x0 (x3 ++ [(rd_T36 x11 x13).f2.f2]) x11 x12 (wrap64 (x13 + 1))) else (none)))) else (impl_Gather.l0 k x0 x3 x11 x12 (wrap64 (x13 + 1)))) else (none)) else (none)) else ((sort_Ints.f k x3).bind fun t461=>(impl_Gather.l1 k x0 ([] : List (S40)) t461 (x3.length : Int) 0))
def impl_Gather.l1 : Nat → List (S36) → List (S40) → List Int → Int → Int → Option ((List (S40)))
 | 0,_,_,_,_,_=>none
 | k + 1,x0,x6,x38,x39,x40=>if x40 < x39 then (if 0 ≤ x40 then (if x40 < (x38.length : Int) then ((impl_gathered.f k x0 (rd x38 x40)).bind fun bt463=>(if bt463.2.2.2 = true then (if x6.length < 3518437208883 then (impl_Gather.l1 k x0 (x6 ++ [(⟨bt463.1,bt463.2.1,bt463.2.2.1⟩ : S40)]) x38 x39 (wrap64 (x40 + 1))) else (none)) else (impl_Gather.l1 k x0 x6 x38 x39 (wrap64 (x40 + 1))))) else (none)) else (none)) else (some x6)
end
def impl_Gather.f (k : Nat) (l0 : List (S36)) : Option ((List (S40))):=impl_Gather.l0 k l0 ([] : List Int) l0 (l0.length : Int) 0
theorem impl_Gather.mono_l : ∀ k,(∀ y0 y1 y2 y3 y4,LeO (impl_Gather.l0 k y0 y1 y2 y3 y4) (impl_Gather.l0 (k + 1) y0 y1 y2 y3 y4)) ∧ (∀ y0 y1 y2 y3 y4,LeO (impl_Gather.l1 k y0 y1 y2 y3 y4) (impl_Gather.l1 (k + 1) y0 y1 y2 y3 y4))
 | 0=>⟨fun _ _ _ _ _ r h=>by simp [impl_Gather.l0] at h,fun _ _ _ _ _ r h=>by simp [impl_Gather.l1] at h⟩
 | k + 1=>by
  obtain ⟨ih0,ih1⟩:=impl_Gather.mono_l k;refine ⟨?_,?_⟩
  ·intro y0 y1 y2 y3 y4;unfold impl_Gather.l0
   repeat' first
   | (with_reducible exact ih0 _ _ _ _ _)
   | (with_reducible exact ih1 _ _ _ _ _)
   | (with_reducible exact impl_gathered.mono _ _ _)
   | (with_reducible exact impl_hasInt.mono _ _ _)
   | (with_reducible exact sort_Ints.mono _ _)
   | (with_reducible exact LeO.refl _)
   | (with_reducible exact LeO.none _)
   | (with_reducible refine LeO.ite ?_ ?_)
   | (with_reducible refine LeO.bind ?_ (fun _=>?_))
   | exact ih0 _ _ _ _ _
   | exact ih1 _ _ _ _ _
   | exact impl_gathered.mono _ _ _
   | exact impl_hasInt.mono _ _ _
   | exact sort_Ints.mono _ _
   | exact LeO.none _
   | refine LeO.ite ?_ ?_
   | refine LeO.bind ?_ (fun _=>?_)
  intro y0 y1 y2 y3 y4;unfold impl_Gather.l1
  repeat' first
  | (with_reducible exact ih0 _ _ _ _ _)
  | (with_reducible exact ih1 _ _ _ _ _)
  | (with_reducible exact impl_gathered.mono _ _ _)
  | (with_reducible exact impl_hasInt.mono _ _ _)
  | (with_reducible exact sort_Ints.mono _ _)
  | (with_reducible exact LeO.refl _)
  | (with_reducible exact LeO.none _)
  | (with_reducible refine LeO.ite ?_ ?_)
  | (with_reducible refine LeO.bind ?_ (fun _=>?_))
  | exact ih0 _ _ _ _ _
  | exact ih1 _ _ _ _ _
  | exact impl_gathered.mono _ _ _
  | exact impl_hasInt.mono _ _ _
  | exact sort_Ints.mono _ _
  | exact LeO.none _
  | refine LeO.ite ?_ ?_
  | refine LeO.bind ?_ (fun _=>?_)
theorem impl_Gather.mono : ∀ a0 k,LeO (impl_Gather.f k a0) (impl_Gather.f (k + 1) a0):=by
 intro a0 k;obtain ⟨ih0,ih1⟩:=impl_Gather.mono_l k;unfold impl_Gather.f
 repeat' first
   | (with_reducible exact ih0 _ _ _ _ _)
   | (with_reducible exact ih1 _ _ _ _ _)
   | (with_reducible exact impl_gathered.mono _ _ _)
   | (with_reducible exact impl_hasInt.mono _ _ _)
   | (with_reducible exact sort_Ints.mono _ _)
   | (with_reducible exact LeO.refl _)
   | (with_reducible exact LeO.none _)
   | (with_reducible refine LeO.ite ?_ ?_)
   | (with_reducible refine LeO.bind ?_ (fun _=>?_))
   | exact ih0 _ _ _ _ _
   | exact ih1 _ _ _ _ _
   | exact impl_gathered.mono _ _ _
   | exact impl_hasInt.mono _ _ _
   | exact sort_Ints.mono _ _
   | exact LeO.none _
   | refine LeO.ite ?_ ?_
   | refine LeO.bind ?_ (fun _=>?_)
set_option maxHeartbeats 8000000 in
set_option maxRecDepth 100000 in
theorem impl_Gather.calls (k : Nat) (A0 : Option Addr) (c0 : Nat) (l0 : List (S36)) (r : List (S40)) (w : World) (hr0 : Kd.C k36 w A0 l0.length l0) (hc0 : l0.length ≤ c0) (h : impl_Gather.f k l0 = some r) :
  Calls Try.prog 13 #[.slice A0 l0.length c0] w fun e w'=>∃ v0_ : Value,e = .returned (v0_) ∧ Kd.S k40 40 w' w.heap.size (fun _=>True) v0_ r ∧ Below w.heap.size w w':=by
 have hu36:=Try.underlying36;have hu40:=Try.underlying40;have HR0:=zMk hr0;have HC0:=zMk hc0;clear hr0 hc0;have HB:=zMk (Below.refl w.heap.size w);have H : (impl_Gather.l0 k l0 ([] : List Int) l0 (l0.length : Int) 0) = some r:=h;clear h;have H':=zMk H;clear H
 go_enter Try.func13,Try.ntmps13
 go_wp2
 (try simp only [Act.put,zS1,zS2,zS3])
 go_loopg [3,13] k (fun kq v3 v13 w'=>∃ (x3_1 : List Int) (x13_1 : Int),v13 = .int .i64 x13_1 ∧ Aside0 (impl_Gather.l0 kq l0 x3_1 l0 (l0.length : Int) x13_1 = some r) ∧ Aside0 (kq ≤ k) ∧ Aside0 (Kd.R (Kd.int .i64) 3 w' w.heap.size (fun _=>True) v3 x3_1) ∧ Aside0 (Below w.heap.size w w'));case atStart=>exact ⟨(([] : List Int)),(0),(by first | rfl | (simp;done) | (simp [*];done)),H',⟨Nat.le_refl _⟩,⟨by first | exact Kd.R_nil _ _ _ _ _ | exact Kd.N_nil _ _ _ _ _ | exact Kd.V_nil _ _ _ _ _ | exact Kd.Q_nil _ _ _ _ _ | exact Kd.S_nil _ _ _ _ _⟩,⟨hs HB⟩⟩
 case round =>
  clear H'
  try clear c1
  obtain ⟨x3_1,x13_1,rfl,HA,HK1,HO_3,HB⟩:=hrel;cases gk with
  | zero=>exact absurd HA.out (by simp [impl_Gather.l0])
  | succ k1 =>
   have H:=HA.out;clear HA;simp only [impl_Gather.l0] at H
   by_cases c2 : x13_1 < (l0.length : Int)
   ·rw [if_pos c2] at H;have c2b0 : decide (x13_1 < (l0.length : Int)) = true:=decide_eq_true c2;clear c2
    by_cases c3 : 0 ≤ x13_1
    ·rw [if_pos c3] at H;have c3b0 : decide (0 ≤ x13_1) = true:=decide_eq_true c3;clear c3
     by_cases c4 : x13_1 < (l0.length : Int)
     ·rw [if_pos c4] at H;have c4b0 : decide (x13_1 < (l0.length : Int)) = true:=decide_eq_true c4;clear c4
      by_cases c5 : ((rd_T36 l0 x13_1).f2.f0) = 2
      ·rw [if_pos c5] at H;have c5b0 : (((rd_T36 l0 x13_1).f2.f0) == 2) = true:=beq_iff_eq.mpr c5;have c5b1 : (((rd_T36 l0 x13_1).f2.f0) != 2) = false:=bne_eq_false_iff_eq.mpr c5;clear c5;replace H:=Option.bind_eq_some_iff.mp H;obtain ⟨t457,A60,H⟩:=H;replace H : (if t457 = true then (impl_Gather.l0 k1 l0 x3_1 l0 (l0.length : Int) (wrap64 (x13_1 + 1))) else (if x3_1.length < 17592186044416 then (impl_Gather.l0 k1 l0 (x3_1 ++ [(rd_T36 l0 x13_1).f2.f2]) l0 (l0.length : Int) (wrap64 (x13_1 + 1))) else (none))) = some r:=H;have A6:=zMk A60;clear A60;have p455 : 0 ≤ (x13_1 : Int):=zDe (by first | (with_reducible assumption) | assumption);have q455 : x13_1 < (l0.length : Int):=zDe (by first | (with_reducible assumption) | assumption);obtain ⟨ad455,e455,hx455_0,hx455_1,hx455_2,hx455_3,hx455_4,hx455_5,hx455_6,hx455_7⟩:=at_T36 HR0.out x13_1 p455 q455;cases e455;replace hx455_0:=(HB.out.cell (zBl w _ hx455_0)).trans hx455_0;replace hx455_1:=(HB.out.cell (zBl w _ hx455_1)).trans hx455_1;replace hx455_2:=(HB.out.cell (zBl w _ hx455_2)).trans hx455_2;replace hx455_3:=(HB.out.cell (zBl w _ hx455_3)).trans hx455_3;replace hx455_4:=(HB.out.cell (zBl w _ hx455_4)).trans hx455_4;replace hx455_5:=(HB.out.cell (zBl w _ hx455_5)).trans hx455_5;replace hx455_6:=(HB.out.cell (zBl w _ hx455_6)).trans hx455_6;replace hx455_7:=(HB.out.cell (zBl w _ hx455_7)).trans hx455_7;replace p455:=eq_true p455;replace q455:=eq_true q455
       go_upto_if 28 with (first | ((with_reducible refine gate_dst (N:=5) rfl ?_);refine box_event ?hg (N:=5) ?hd (cs:=#[.int .i64 0,.int .i64 0,.int .i64 0,.int .i64 0,.int .i64 0,.int .i64 0,.int .i64 0,.string (⟨#[]⟩ : ByteArray)]) (t:=36) ?hr ?_;(case hd=>rfl);(case hg=>rfl);(case hr=>first | (go_simp;done) | (go_simp;rfl));intro gb456 hg w8 hbox hb;have n0_:=zMk (Kd.R_below (rs HO_3) hb);have n1_:=zMk (below_step (hs HB) hb);have n2_:=zMk (hbox);have n3_:=zMk ((by rw [hg];exact (below_size (hs HB)) : w.heap.size ≤ gb456));have n4_:=zMk ((by rw [hg];exact (below_size (hs HB)) : w.heap.size ≤ gb456));clear HO_3;clear HB;have HO_3:=n0_;have HB:=n1_;have BK456:=n2_;have GW456:=n3_;have GE456:=n4_;clear n0_ n1_ n2_ n3_ n4_;clear hb hbox hg;have hcz9_0 : w8.cell? ⟨gb456,0,none⟩ = some (.int .i64 0):=(zCl BK456.out 0).trans rfl;have hcz9_1 : w8.cell? ⟨gb456,1,none⟩ = some (.int .i64 0):=(zCl BK456.out 1).trans rfl;have hcz9_2 : w8.cell? ⟨gb456,2,none⟩ = some (.int .i64 0):=(zCl BK456.out 2).trans rfl;have hcz9_3 : w8.cell? ⟨gb456,3,none⟩ = some (.int .i64 0):=(zCl BK456.out 3).trans rfl;have hcz9_4 : w8.cell? ⟨gb456,4,none⟩ = some (.int .i64 0):=(zCl BK456.out 4).trans rfl;have hcz9_5 : w8.cell? ⟨gb456,5,none⟩ = some (.int .i64 0):=(zCl BK456.out 5).trans rfl;have hcz9_6 : w8.cell? ⟨gb456,6,none⟩ = some (.int .i64 0):=(zCl BK456.out 6).trans rfl;have hcz9_7 : w8.cell? ⟨gb456,7,none⟩ = some (.string (⟨#[]⟩ : ByteArray)):=(zCl BK456.out 7).trans rfl;have hfz9_0:=zFr BK456.out 0;have hfz9_1:=zFr BK456.out 1;have hfz9_2:=zFr BK456.out 2;have hfz9_3:=zFr BK456.out 3;have hfz9_4:=zFr BK456.out 4;have hfz9_5:=zFr BK456.out 5;have hfz9_6:=zFr BK456.out 6;have hfz9_7:=zFr BK456.out 7;obtain ⟨Ao10,co10,eo10⟩:=Kd.R_slice HO_3.out;subst eo10) | (go_at_call 35;(with_reducible refine (impl_hasInt.calls k1 _ _ x3_1 ((rd_T36 l0 x13_1).f2.f2) t457 _ ?side1 ?side2 A6.out).mono ?_);(case side1=>refine (Kd.R_reads' (e:=3) (base:=w.heap.size) (ok:=fun k_=>True) (n:=x3_1.length) (c:=co10) ?_).2.2;exact (by (with_reducible repeat (first | apply Kd.R_alloc | apply Kd.R_drewN | apply Kd.R_drew));exact (Kd.R_mono (Kd.R_far (p:=⟨gb456,7,none⟩) (Kd.R_far (p:=⟨gb456,6,none⟩) (Kd.R_far (p:=⟨gb456,5,none⟩) (Kd.R_far (p:=⟨gb456,4,none⟩) (Kd.R_far (p:=⟨gb456,3,none⟩) (Kd.R_far (p:=⟨gb456,2,none⟩) (Kd.R_far (p:=⟨gb456,1,none⟩) (Kd.R_far (p:=⟨gb456,0,none⟩) (Kd.R_types HO_3.out BK456.out (by decide)) (fun _ hk=>hk.2) (.int .i64 ((rd_T36 l0 x13_1).f0))) (fun _ hk=>hk.2) (.int .i64 ((rd_T36 l0 x13_1).f1))) (fun _ hk=>hk.2) (.int .i64 ((rd_T36 l0 x13_1).f2.f0))) (fun _ hk=>hk.2) (.int .i64 ((rd_T36 l0 x13_1).f2.f1))) (fun _ hk=>hk.2) (.int .i64 ((rd_T36 l0 x13_1).f2.f2))) (fun _ hk=>hk.2) (.int .i64 ((rd_T36 l0 x13_1).f2.f3))) (fun _ hk=>hk.2) (.int .i64 ((rd_T36 l0 x13_1).f2.f4))) (fun _ hk=>hk.2) (.string ((rd_T36 l0 x13_1).f2.f5))) (fun _ h_=>h_.1))));(case side2=>exact (Kd.R_reads' HO_3.out).2.1);rintro e w' ⟨rfl,⟨nd,rfl⟩⟩))
       (try simp only [Act.put,zS1,zS2,zS3])
       by_cases c7 : t457 = true
       ·subst c7;have H1 : (impl_Gather.l0 k1 l0 x3_1 l0 (l0.length : Int) (wrap64 (x13_1 + 1))) = some r:=by rw [if_pos rfl] at H;exact H
        clear H;have H:=H1;clear H1;have H':=zMk H;clear H
        go_wp2
        go_roundg k1;case measure=>have:=HK1.out;omega
        case rel=>exact ⟨(x3_1),(wrap64 (x13_1 + 1)),(by first | rfl | (simp;done) | (simp [*];done)),H',⟨by have:=HK1.out;omega⟩,⟨by (with_reducible repeat (first | apply Kd.R_alloc | apply Kd.R_drewN | apply Kd.R_drew));exact Kd.R_mono (Kd.R_far (p:=⟨gb456,7,none⟩) (Kd.R_far (p:=⟨gb456,6,none⟩) (Kd.R_far (p:=⟨gb456,5,none⟩) (Kd.R_far (p:=⟨gb456,4,none⟩) (Kd.R_far (p:=⟨gb456,3,none⟩) (Kd.R_far (p:=⟨gb456,2,none⟩) (Kd.R_far (p:=⟨gb456,1,none⟩) (Kd.R_far (p:=⟨gb456,0,none⟩) (Kd.R_types HO_3.out BK456.out (by decide)) (fun _ hk=>hk.2) (.int .i64 ((rd_T36 l0 x13_1).f0))) (fun _ hk=>hk.2) (.int .i64 ((rd_T36 l0 x13_1).f1))) (fun _ hk=>hk.2) (.int .i64 ((rd_T36 l0 x13_1).f2.f0))) (fun _ hk=>hk.2) (.int .i64 ((rd_T36 l0 x13_1).f2.f1))) (fun _ hk=>hk.2) (.int .i64 ((rd_T36 l0 x13_1).f2.f2))) (fun _ hk=>hk.2) (.int .i64 ((rd_T36 l0 x13_1).f2.f3))) (fun _ hk=>hk.2) (.int .i64 ((rd_T36 l0 x13_1).f2.f4))) (fun _ hk=>hk.2) (.string ((rd_T36 l0 x13_1).f2.f5))) (fun _ hk=>trivial)⟩,⟨hs1 HB GE456⟩⟩
       replace c7:=Bool.eq_false_iff.mpr c7;subst c7;have H1 : (if x3_1.length < 17592186044416 then (impl_Gather.l0 k1 l0 (x3_1 ++ [(rd_T36 l0 x13_1).f2.f2]) l0 (l0.length : Int) (wrap64 (x13_1 + 1))) else (none)) = some r:=by rw [if_neg (show ¬ (false = true) by decide)] at H;exact H
       clear H;have H:=H1;clear H1
       by_cases c11 : x3_1.length < 17592186044416
       ·rw [if_pos c11] at H;have LMc11:=zMk c11;clear c11;obtain ⟨y458,hy458⟩ : ∃ y_ : List Int,y_ = (x3_1 ++ [(rd_T36 l0 x13_1).f2.f2]):=⟨_,rfl⟩;replace H : (impl_Gather.l0 k1 l0 y458 l0 (l0.length : Int) (wrap64 (x13_1 + 1))) = some r:=by first | (rw [hy458];with_reducible exact H) | (have H2_:=(Option.bind_some _ _).symm.trans H;rw [hy458];with_reducible exact H2_) | (have H2_:=(Option.bind_some _ _).symm.trans H;with_reducible exact H2_) | with_reducible exact H | (rw [hy458];exact H) | exact H
        have Ny458:=zMk hy458;clear hy458;have H':=zMk H;clear H;go_wp2_with (first | ((with_reducible refine gate_builtin (b:=.append) (xs:=#[.tmp 29,.tmp 33]) rfl ?_);at_builtin;refine Kd.R_append (Kd.int .i64) (w0:=w) w.heap.size rfl (.tmp 29) (.tmp 33) 26 3 (.int .i64 0) 8 rfl Try.underlying26 info3 rfl (by decide) (by omega) (.slice Ao10 x3_1.length co10) x3_1 ((rd_T36 l0 x13_1).f2.f2) [.int .i64 ((rd_T36 l0 x13_1).f2.f2)] (fun _=>True) (fun _=>False) rfl (by first | (go_simp;done) | (go_simp;rfl)) ?aP (fun _ hk=>hk.elim) ?aF ?aO ?aB ?aS ?aL ?_;(case aP=>exact rfl);(case aB=>exact (hs1 HB GE456));(case aF=>exact (fun _ _=>trivial));(case aO=>exact (by (with_reducible repeat (first | apply Kd.R_alloc | apply Kd.R_drewN | apply Kd.R_drew));exact Kd.R_mono (Kd.R_far (p:=⟨gb456,7,none⟩) (Kd.R_far (p:=⟨gb456,6,none⟩) (Kd.R_far (p:=⟨gb456,5,none⟩) (Kd.R_far (p:=⟨gb456,4,none⟩) (Kd.R_far (p:=⟨gb456,3,none⟩) (Kd.R_far (p:=⟨gb456,2,none⟩) (Kd.R_far (p:=⟨gb456,1,none⟩) (Kd.R_far (p:=⟨gb456,0,none⟩) (Kd.R_types HO_3.out BK456.out (by decide)) (fun _ hk=>hk.2) (.int .i64 ((rd_T36 l0 x13_1).f0))) (fun _ hk=>hk.2) (.int .i64 ((rd_T36 l0 x13_1).f1))) (fun _ hk=>hk.2) (.int .i64 ((rd_T36 l0 x13_1).f2.f0))) (fun _ hk=>hk.2) (.int .i64 ((rd_T36 l0 x13_1).f2.f1))) (fun _ hk=>hk.2) (.int .i64 ((rd_T36 l0 x13_1).f2.f2))) (fun _ hk=>hk.2) (.int .i64 ((rd_T36 l0 x13_1).f2.f3))) (fun _ hk=>hk.2) (.int .i64 ((rd_T36 l0 x13_1).f2.f4))) (fun _ hk=>hk.2) (.string ((rd_T36 l0 x13_1).f2.f5))) (fun _ hk=>trivial)));(case aS=>exact (below_size (hs1 HB GE456)));(case aL=>have:=LMc11.out;omega);intro v459 w15 ho hb hg hat;rw [← Ny458.out] at ho;have n0_:=zMk (blk_grown (g:=gb456) (o:=.cells #[.int .i64 ((rd_T36 l0 x13_1).f0),.int .i64 ((rd_T36 l0 x13_1).f1),.int .i64 ((rd_T36 l0 x13_1).f2.f0),.int .i64 ((rd_T36 l0 x13_1).f2.f1),.int .i64 ((rd_T36 l0 x13_1).f2.f2),.int .i64 ((rd_T36 l0 x13_1).f2.f3),.int .i64 ((rd_T36 l0 x13_1).f2.f4),.string ((rd_T36 l0 x13_1).f2.f5)] 36 (0,0)) (by (with_reducible repeat (first | refine blk_drewN ?_ _ | refine blk_drew ?_ | refine blk_alloc ?_ _));refine blk_put (cs:=#[.int .i64 ((rd_T36 l0 x13_1).f0),.int .i64 ((rd_T36 l0 x13_1).f1),.int .i64 ((rd_T36 l0 x13_1).f2.f0),.int .i64 ((rd_T36 l0 x13_1).f2.f1),.int .i64 ((rd_T36 l0 x13_1).f2.f2),.int .i64 ((rd_T36 l0 x13_1).f2.f3),.int .i64 ((rd_T36 l0 x13_1).f2.f4),.string (⟨#[]⟩ : ByteArray)]) ?_ 7 _ rfl;(with_reducible repeat (first | refine blk_drewN ?_ _ | refine blk_drew ?_ | refine blk_alloc ?_ _));refine blk_put (cs:=#[.int .i64 ((rd_T36 l0 x13_1).f0),.int .i64 ((rd_T36 l0 x13_1).f1),.int .i64 ((rd_T36 l0 x13_1).f2.f0),.int .i64 ((rd_T36 l0 x13_1).f2.f1),.int .i64 ((rd_T36 l0 x13_1).f2.f2),.int .i64 ((rd_T36 l0 x13_1).f2.f3),.int .i64 0,.string (⟨#[]⟩ : ByteArray)]) ?_ 6 _ rfl;(with_reducible repeat (first | refine blk_drewN ?_ _ | refine blk_drew ?_ | refine blk_alloc ?_ _));refine blk_put (cs:=#[.int .i64 ((rd_T36 l0 x13_1).f0),.int .i64 ((rd_T36 l0 x13_1).f1),.int .i64 ((rd_T36 l0 x13_1).f2.f0),.int .i64 ((rd_T36 l0 x13_1).f2.f1),.int .i64 ((rd_T36 l0 x13_1).f2.f2),.int .i64 0,.int .i64 0,.string (⟨#[]⟩ : ByteArray)]) ?_ 5 _ rfl;(with_reducible repeat (first | refine blk_drewN ?_ _ | refine blk_drew ?_ | refine blk_alloc ?_ _));refine blk_put (cs:=#[.int .i64 ((rd_T36 l0 x13_1).f0),.int .i64 ((rd_T36 l0 x13_1).f1),.int .i64 ((rd_T36 l0 x13_1).f2.f0),.int .i64 ((rd_T36 l0 x13_1).f2.f1),.int .i64 0,.int .i64 0,.int .i64 0,.string (⟨#[]⟩ : ByteArray)]) ?_ 4 _ rfl;(with_reducible repeat (first | refine blk_drewN ?_ _ | refine blk_drew ?_ | refine blk_alloc ?_ _));refine blk_put (cs:=#[.int .i64 ((rd_T36 l0 x13_1).f0),.int .i64 ((rd_T36 l0 x13_1).f1),.int .i64 ((rd_T36 l0 x13_1).f2.f0),.int .i64 0,.int .i64 0,.int .i64 0,.int .i64 0,.string (⟨#[]⟩ : ByteArray)]) ?_ 3 _ rfl;(with_reducible repeat (first | refine blk_drewN ?_ _ | refine blk_drew ?_ | refine blk_alloc ?_ _));refine blk_put (cs:=#[.int .i64 ((rd_T36 l0 x13_1).f0),.int .i64 ((rd_T36 l0 x13_1).f1),.int .i64 0,.int .i64 0,.int .i64 0,.int .i64 0,.int .i64 0,.string (⟨#[]⟩ : ByteArray)]) ?_ 2 _ rfl;(with_reducible repeat (first | refine blk_drewN ?_ _ | refine blk_drew ?_ | refine blk_alloc ?_ _));refine blk_put (cs:=#[.int .i64 ((rd_T36 l0 x13_1).f0),.int .i64 0,.int .i64 0,.int .i64 0,.int .i64 0,.int .i64 0,.int .i64 0,.string (⟨#[]⟩ : ByteArray)]) ?_ 1 _ rfl;(with_reducible repeat (first | refine blk_drewN ?_ _ | refine blk_drew ?_ | refine blk_alloc ?_ _));refine blk_put (cs:=#[.int .i64 0,.int .i64 0,.int .i64 0,.int .i64 0,.int .i64 0,.int .i64 0,.int .i64 0,.string (⟨#[]⟩ : ByteArray)]) ?_ 0 _ rfl;(with_reducible repeat (first | refine blk_drewN ?_ _ | refine blk_drew ?_ | refine blk_alloc ?_ _));exact BK456.out) hg (Kd.R_ne HO_3.out BK456.out (by decide)));have n1_:=zMk (hb);have n2_:=zMk (ho);clear BK456;clear HB;clear HO_3;have BK456:=n0_;have HB:=n1_;have HO460:=n2_;clear n0_ n1_ n2_;clear ho hb hg hat));go_roundg k1;case measure=>have:=HK1.out;omega
        case rel=>exact ⟨(y458),(wrap64 (x13_1 + 1)),(by first | rfl | (simp;done) | (simp [*];done)),H',⟨by have:=HK1.out;omega⟩,⟨rs HO460⟩,⟨hs1 HB GE456⟩⟩
       rw [if_neg c11] at H;exact absurd H (by simp)
      rw [if_neg c5] at H;have c5b0 : (((rd_T36 l0 x13_1).f2.f0) == 2) = false:=beq_eq_false_iff_ne.mpr c5;have c5b1 : (((rd_T36 l0 x13_1).f2.f0) != 2) = true:=bne_iff_ne.mpr c5;have H':=zMk H;clear H;have p455 : 0 ≤ (x13_1 : Int):=zDe (by first | (with_reducible assumption) | assumption);have q455 : x13_1 < (l0.length : Int):=zDe (by first | (with_reducible assumption) | assumption);obtain ⟨ad455,e455,hx455_0,hx455_1,hx455_2,hx455_3,hx455_4,hx455_5,hx455_6,hx455_7⟩:=at_T36 HR0.out x13_1 p455 q455;cases e455;replace hx455_0:=(HB.out.cell (zBl w _ hx455_0)).trans hx455_0;replace hx455_1:=(HB.out.cell (zBl w _ hx455_1)).trans hx455_1;replace hx455_2:=(HB.out.cell (zBl w _ hx455_2)).trans hx455_2;replace hx455_3:=(HB.out.cell (zBl w _ hx455_3)).trans hx455_3;replace hx455_4:=(HB.out.cell (zBl w _ hx455_4)).trans hx455_4;replace hx455_5:=(HB.out.cell (zBl w _ hx455_5)).trans hx455_5;replace hx455_6:=(HB.out.cell (zBl w _ hx455_6)).trans hx455_6;replace hx455_7:=(HB.out.cell (zBl w _ hx455_7)).trans hx455_7;replace p455:=eq_true p455;replace q455:=eq_true q455;go_wp2_with (first | ((with_reducible refine gate_dst (N:=5) rfl ?_);refine box_event ?hg (N:=5) ?hd (cs:=#[.int .i64 0,.int .i64 0,.int .i64 0,.int .i64 0,.int .i64 0,.int .i64 0,.int .i64 0,.string (⟨#[]⟩ : ByteArray)]) (t:=36) ?hr ?_;(case hd=>rfl);(case hg=>rfl);(case hr=>first | (go_simp;done) | (go_simp;rfl));intro gb456 hg w16 hbox hb;have n0_:=zMk (Kd.R_below (rs HO_3) hb);have n1_:=zMk (below_step (hs HB) hb);have n2_:=zMk (hbox);have n3_:=zMk ((by rw [hg];exact (below_size (hs HB)) : w.heap.size ≤ gb456));have n4_:=zMk ((by rw [hg];exact (below_size (hs HB)) : w.heap.size ≤ gb456));clear HO_3;clear HB;have HO_3:=n0_;have HB:=n1_;have BK456:=n2_;have GW456:=n3_;have GE456:=n4_;clear n0_ n1_ n2_ n3_ n4_;clear hb hbox hg;have hcz17_0 : w16.cell? ⟨gb456,0,none⟩ = some (.int .i64 0):=(zCl BK456.out 0).trans rfl;have hcz17_1 : w16.cell? ⟨gb456,1,none⟩ = some (.int .i64 0):=(zCl BK456.out 1).trans rfl;have hcz17_2 : w16.cell? ⟨gb456,2,none⟩ = some (.int .i64 0):=(zCl BK456.out 2).trans rfl;have hcz17_3 : w16.cell? ⟨gb456,3,none⟩ = some (.int .i64 0):=(zCl BK456.out 3).trans rfl;have hcz17_4 : w16.cell? ⟨gb456,4,none⟩ = some (.int .i64 0):=(zCl BK456.out 4).trans rfl;have hcz17_5 : w16.cell? ⟨gb456,5,none⟩ = some (.int .i64 0):=(zCl BK456.out 5).trans rfl;have hcz17_6 : w16.cell? ⟨gb456,6,none⟩ = some (.int .i64 0):=(zCl BK456.out 6).trans rfl;have hcz17_7 : w16.cell? ⟨gb456,7,none⟩ = some (.string (⟨#[]⟩ : ByteArray)):=(zCl BK456.out 7).trans rfl;have hfz17_0:=zFr BK456.out 0;have hfz17_1:=zFr BK456.out 1;have hfz17_2:=zFr BK456.out 2;have hfz17_3:=zFr BK456.out 3;have hfz17_4:=zFr BK456.out 4;have hfz17_5:=zFr BK456.out 5;have hfz17_6:=zFr BK456.out 6;have hfz17_7:=zFr BK456.out 7));go_roundg k1;case measure=>have:=HK1.out;omega
      case rel=>exact ⟨(x3_1),(wrap64 (x13_1 + 1)),(by first | rfl | (simp;done) | (simp [*];done)),H',⟨by have:=HK1.out;omega⟩,⟨by (with_reducible repeat (first | apply Kd.R_alloc | apply Kd.R_drewN | apply Kd.R_drew));exact Kd.R_mono (Kd.R_far (p:=⟨gb456,7,none⟩) (Kd.R_far (p:=⟨gb456,6,none⟩) (Kd.R_far (p:=⟨gb456,5,none⟩) (Kd.R_far (p:=⟨gb456,4,none⟩) (Kd.R_far (p:=⟨gb456,3,none⟩) (Kd.R_far (p:=⟨gb456,2,none⟩) (Kd.R_far (p:=⟨gb456,1,none⟩) (Kd.R_far (p:=⟨gb456,0,none⟩) (Kd.R_types HO_3.out BK456.out (by decide)) (fun _ hk=>hk.2) (.int .i64 ((rd_T36 l0 x13_1).f0))) (fun _ hk=>hk.2) (.int .i64 ((rd_T36 l0 x13_1).f1))) (fun _ hk=>hk.2) (.int .i64 ((rd_T36 l0 x13_1).f2.f0))) (fun _ hk=>hk.2) (.int .i64 ((rd_T36 l0 x13_1).f2.f1))) (fun _ hk=>hk.2) (.int .i64 ((rd_T36 l0 x13_1).f2.f2))) (fun _ hk=>hk.2) (.int .i64 ((rd_T36 l0 x13_1).f2.f3))) (fun _ hk=>hk.2) (.int .i64 ((rd_T36 l0 x13_1).f2.f4))) (fun _ hk=>hk.2) (.string ((rd_T36 l0 x13_1).f2.f5))) (fun _ hk=>trivial)⟩,⟨hs1 HB GE456⟩⟩
     rw [if_neg c4] at H;exact absurd H (by simp)
    rw [if_neg c3] at H;exact absurd H (by simp)
   rw [if_neg c2] at H;have c2b0 : decide (x13_1 < (l0.length : Int)) = false:=decide_eq_false c2;clear c2;replace H:=Option.bind_eq_some_iff.mp H;obtain ⟨t461,A180,H⟩:=H;replace H : (impl_Gather.l1 k1 l0 ([] : List (S40)) t461 (x3_1.length : Int) 0) = some r:=H;have A18:=zMk A180;clear A180;have H':=zMk H;clear H;obtain ⟨Ao19,co19,eo19⟩:=Kd.R_slice HO_3.out;subst eo19;go_wp2_with (first | ((with_reducible refine gate_callee (f:=36) rfl ?_);refine goesL_ (some 37) rfl rfl Try.func36 (by kernel_rfl) rfl #[.slice Ao19 x3_1.length co19] rfl (by (try simp only [List.map_toArray,List.map_cons,List.map_nil]);first | done | rfl | (simp only [List.length_drop,List.length_take];rfl)) ?_;(with_reducible refine (sort_Ints.calls k1 (fun k_=>some k_ = (.slice Ao19 x3_1.length co19 : Value).ownBlock) (.slice Ao19 x3_1.length co19) x3_1 t461 w _ ?side1 ?side2 A18.out).mono ?_);(case side1=>repeat (first | (with_reducible first | exact HB.out | apply below_alloc | apply pw_below_drewN | apply below_drew1) | exact HB.out));(case side2=>exact Kd.R_tight rfl HO_3.out);rintro e w20 ⟨rfl,hy0,hb,hkp⟩;refine ⟨_,rfl,?_⟩;have n0_:=zMk (Kd.R_reok rfl hy0 (fun k_ e_=>HO_3.out.1 k_ e_));have n1_:=zMk (hb);clear HO_3;clear HB;have HO_3:=n0_;have HB:=n1_;clear n0_ n1_;(try clear hb);(try clear hkp);(try clear hy0)))
   (try simp only [Act.put,zS1,zS2,zS3])
   go_loopg [6,40] k1 (fun kq v6 v40 w'=>∃ (x6_2 : List (S40)) (x40_2 : Int),v40 = .int .i64 x40_2 ∧ Aside0 (impl_Gather.l1 kq l0 x6_2 t461 (x3_1.length : Int) x40_2 = some r) ∧ Aside0 (kq ≤ k1) ∧ Aside0 (Kd.S k40 40 w' w.heap.size (fun _=>True) v6 x6_2) ∧ Aside0 (Kd.R (Kd.int .i64) 3 w' w.heap.size (fun _=>True) (.slice Ao19 x3_1.length co19) t461) ∧ Aside0 (Below w.heap.size w w'));case atStart=>exact ⟨(([] : List (S40))),(0),(by first | rfl | (simp;done) | (simp [*];done)),H',⟨Nat.le_refl _⟩,⟨by first | exact Kd.S_nil _ _ _ _ _ | exact Kd.N_nil _ _ _ _ _ | exact Kd.V_nil _ _ _ _ _ | exact Kd.Q_nil _ _ _ _ _ | exact Kd.R_nil _ _ _ _ _⟩,⟨rs HO_3⟩,⟨hs HB⟩⟩
   case round =>
    clear H'
    try clear c1
    try clear c2
    try clear c2b0
    try clear p2
    try clear c3
    try clear c3b0
    try clear c4
    try clear c4b0
    try clear p4
    try clear q4
    try clear hx4
    try clear c5
    try clear c5b0
    try clear c5b1
    try clear p6
    try clear c7
    try clear c11
    try clear c13
    try clear hcz13_0
    try clear hcz13_1
    try clear hcz13_2
    try clear hcz13_3
    try clear hcz13_4
    try clear hcz13_5
    try clear hcz13_6
    try clear hcz13_7
    try clear hcz17_0
    try clear hcz17_1
    try clear hcz17_2
    try clear hcz17_3
    try clear hcz17_4
    try clear hcz17_5
    try clear hcz17_6
    try clear hcz17_7
    try clear hcz9_0
    try clear hcz9_1
    try clear hcz9_2
    try clear hcz9_3
    try clear hcz9_4
    try clear hcz9_5
    try clear hcz9_6
    try clear hcz9_7
    try clear hfz13_0
    try clear hfz13_1
    try clear hfz13_2
    try clear hfz13_3
    try clear hfz13_4
    try clear hfz13_5
    try clear hfz13_6
    try clear hfz13_7
    try clear hfz17_0
    try clear hfz17_1
    try clear hfz17_2
    try clear hfz17_3
    try clear hfz17_4
    try clear hfz17_5
    try clear hfz17_6
    try clear hfz17_7
    try clear hfz9_0
    try clear hfz9_1
    try clear hfz9_2
    try clear hfz9_3
    try clear hfz9_4
    try clear hfz9_5
    try clear hfz9_6
    try clear hfz9_7
    try clear hx455_0
    try clear hx455_1
    try clear hx455_2
    try clear hx455_3
    try clear hx455_4
    try clear hx455_5
    try clear hx455_6
    try clear hx455_7
    try clear p455
    try clear q455
    obtain ⟨x6_2,x40_2,rfl,HA,HK2,HO_6,HO_38,HB⟩:=hrel;have hl38_2:=(Kd.R_reads' HO_38.out).1;rw [hl38_2] at HO_38
    (try simp only [hl38_2])
    (try simp only [hl38_2] at HO_6)
    cases gk with
    | zero=>exact absurd HA.out (by simp [impl_Gather.l1])
    | succ k2 =>
     have H:=HA.out;clear HA;simp only [impl_Gather.l1] at H
     by_cases c21 : x40_2 < (x3_1.length : Int)
     ·rw [if_pos c21] at H;have c21b0 : decide (x40_2 < (x3_1.length : Int)) = true:=decide_eq_true c21;clear c21
      by_cases c22 : 0 ≤ x40_2
      ·rw [if_pos c22] at H;have c22b0 : decide (0 ≤ x40_2) = true:=decide_eq_true c22;clear c22
       by_cases c23 : x40_2 < (t461.length : Int)
       ·rw [if_pos c23] at H;have c23b0 : decide (x40_2 < (t461.length : Int)) = true:=decide_eq_true c23;clear c23;replace H:=Option.bind_eq_some_iff.mp H;obtain ⟨⟨t463,t464,t465,t468⟩,A240,H⟩:=H;replace H : (if t468 = true then (if x6_2.length < 3518437208883 then (impl_Gather.l1 k2 l0 (x6_2 ++ [(⟨t463,t464,t465⟩ : S40)]) t461 (x3_1.length : Int) (wrap64 (x40_2 + 1))) else (none)) else (impl_Gather.l1 k2 l0 x6_2 t461 (x3_1.length : Int) (wrap64 (x40_2 + 1)))) = some r:=H;have A24:=zMk A240;clear A240
        by_cases c25 : t468 = true
        ·subst c25;have H1 : (if x6_2.length < 3518437208883 then (impl_Gather.l1 k2 l0 (x6_2 ++ [(⟨t463,t464,t465⟩ : S40)]) t461 (x3_1.length : Int) (wrap64 (x40_2 + 1))) else (none)) = some r:=by rw [if_pos rfl] at H;exact H
         clear H;have H:=H1;clear H1
         by_cases c26 : x6_2.length < 3518437208883
         ·rw [if_pos c26] at H;have LMc26:=zMk c26;clear c26;obtain ⟨y470,hy470⟩ : ∃ y_ : List (S40),y_ = (x6_2 ++ [(⟨t463,t464,t465⟩ : S40)]):=⟨_,rfl⟩;replace H : (impl_Gather.l1 k2 l0 y470 t461 (x3_1.length : Int) (wrap64 (x40_2 + 1))) = some r:=by first | (rw [hy470];with_reducible exact H) | (have H2_:=(Option.bind_some _ _).symm.trans H;rw [hy470];with_reducible exact H2_) | (have H2_:=(Option.bind_some _ _).symm.trans H;with_reducible exact H2_) | with_reducible exact H | (rw [hy470];exact H) | exact H
          have Ny470:=zMk hy470;clear hy470;have H':=zMk H;clear H;have p462 : 0 ≤ (x40_2 : Int):=zDe (by first | (with_reducible assumption) | assumption);have q462 : x40_2 < (t461.length : Int):=zDe (by first | (with_reducible assumption) | assumption);obtain ⟨ad462,e462,hx462_0⟩:=Kd.at_int (Kd.R_reads' HO_38.out).2.2 x40_2 p462 q462;cases e462;replace p462:=eq_true p462;replace q462:=eq_true q462;go_wp2_with (first | ((with_reducible refine gate_callee (f:=37) rfl ?_);refine goesL_ (some 47) rfl rfl Try.func37 (by kernel_rfl) rfl #[.slice A0 l0.length c0,.int .i64 (rd t461 x40_2)] rfl (by (try simp only [List.map_toArray,List.map_cons,List.map_nil]);first | done | rfl | (simp only [List.length_drop,List.length_take];rfl)) ?_;(with_reducible refine (impl_gathered.calls k2 _ _ l0 (rd t461 x40_2) t463 t464 t465 true _ ?side1 ?side2 A24.out).mono ?_);(case side1=>repeat (first | exact (Kd.C_below HR0.out HB.out) | (with_reducible refine Kd.C_alloc ?_ _) | (with_reducible refine Kd.C_drewN ?_ _) | (with_reducible refine Kd.C_drew ?_)));(case side2=>exact HC0.out);rintro e w27 ⟨v466,rfl,ho0,hb⟩;refine ⟨_,rfl,?_⟩;have n0_:=zMk (Kd.S_elder' (ss HO_6) (Kd.R_base ho0) hb);have n1_:=zMk (Kd.R_below (rs HO_38) hb);have n2_:=zMk (Kd.R_lower ho0 (below_size (hs HB)));have n3_:=zMk (below_step (hs HB) hb);clear HO_6;clear HO_38;clear HB;have HO_6:=n0_;have HO_38:=n1_;have HO467:=n2_;have HB:=n3_;clear n0_ n1_ n2_ n3_;(try clear hb);(try clear hb2);(try clear hk);(try clear hi);(try clear ho0)) | ((with_reducible refine gate_dst (N:=9) rfl ?_);refine box_event ?hg (N:=9) ?hd (cs:=#[.int .i64 0,.int .i64 0,.slice none 0 0]) (t:=40) ?hr ?_;(case hd=>rfl);(case hg=>rfl);(case hr=>first | (go_simp;done) | (go_simp;rfl));intro gb469 hg w28 hbox hb;have n0_:=zMk (Kd.S_below (Kd.S_elderB (ss HO_6) gb469 (Nat.le_of_eq hg.symm)) hb);have n1_:=zMk (Kd.R_below (rs HO_38) hb);have n2_:=zMk (Kd.R_below (rs HO467) hb);have n3_:=zMk (below_step (hs HB) hb);have n4_:=zMk (hbox);have n5_:=zMk ((by rw [hg];exact (below_size (hs HB)) : w.heap.size ≤ gb469));have n6_:=zMk ((by rw [hg];exact (below_size (hs HB)) : w.heap.size ≤ gb469));clear HO_6;clear HO_38;clear HO467;clear HB;have HO_6:=n0_;have HO_38:=n1_;have HO467:=n2_;have HB:=n3_;have BK469:=n4_;have GW469:=n5_;have GE469:=n6_;clear n0_ n1_ n2_ n3_ n4_ n5_ n6_;clear hb hbox hg;have hcz29_0 : w28.cell? ⟨gb469,0,none⟩ = some (.int .i64 0):=(zCl BK469.out 0).trans rfl;have hcz29_1 : w28.cell? ⟨gb469,1,none⟩ = some (.int .i64 0):=(zCl BK469.out 1).trans rfl;have hcz29_2 : w28.cell? ⟨gb469,2,none⟩ = some (.slice none 0 0):=(zCl BK469.out 2).trans rfl;have hfz29_0:=zFr BK469.out 0;have hfz29_1:=zFr BK469.out 1;have hfz29_2:=zFr BK469.out 2;obtain ⟨Ao30,co30,eo30⟩:=Kd.R_slice HO467.out;subst eo30) | ((with_reducible refine gate_store (t:=40) (p:=9) rfl ?_);refine store_event (t:=40) (p:=9) (v:=?vo_w31) (w1:=(((w28.setCell ⟨gb469,0,none⟩ (.int .i64 t463)).setCell ⟨gb469,1,none⟩ (.int .i64 t464)).setCell ⟨gb469,2,none⟩ (.slice Ao30 t465.length co30))) ?hg ?ho ?hn ?hr ?_;(case ho=>rfl);(case hg=>rfl);(case hn=>rfl);(case hr=>first | (go_simp;done) | (go_simp;rfl));intro w31 hw;have n0_ : Aside0 (Kd.S k40 40 w31 w.heap.size (fun k_=>some k_ ≠ (.slice Ao30 t465.length co30 : Value).ownBlock ∧ k_ ≠ gb469) u6 x6_2):=⟨(by rw [hw];exact (by (with_reducible repeat (first | apply Kd.S_alloc | apply Kd.S_drewN | apply Kd.S_drew));exact Kd.S_mono (Kd.S_far (p:=⟨gb469,2,none⟩) (Kd.S_far (p:=⟨gb469,1,none⟩) (Kd.S_far (p:=⟨gb469,0,none⟩) (Kd.S_mono HO_6.out (fun k_ hk=>(⟨hk,hk.2⟩ : _ ∧ k_ ≠ gb469))) (fun _ hk=>hk.2) (.int .i64 t463)) (fun _ hk=>hk.2) (.int .i64 t464)) (fun _ hk=>hk.2) (.slice Ao30 t465.length co30)) (fun _ hk=>⟨hk.1.1.2,hk.1.2⟩)))⟩;have n1_ : Aside0 (Kd.R (Kd.int .i64) 3 w31 w.heap.size (fun _=>True) (.slice (some ad462) t461.length co19) t461):=⟨(by rw [hw];exact (by (with_reducible repeat (first | apply Kd.R_alloc | apply Kd.R_drewN | apply Kd.R_drew));exact Kd.R_mono (Kd.R_far (p:=⟨gb469,2,none⟩) (Kd.R_far (p:=⟨gb469,1,none⟩) (Kd.R_far (p:=⟨gb469,0,none⟩) (Kd.R_types HO_38.out BK469.out (by decide)) (fun _ hk=>hk.2) (.int .i64 t463)) (fun _ hk=>hk.2) (.int .i64 t464)) (fun _ hk=>hk.2) (.slice Ao30 t465.length co30)) (fun _ hk=>trivial)))⟩;have n2_ : Aside0 (Kd.R k45 45 w31 w.heap.size (fun _=>True) (.slice Ao30 t465.length co30) t465):=⟨(by rw [hw];exact (by (with_reducible repeat (first | apply Kd.R_alloc | apply Kd.R_drewN | apply Kd.R_drew));exact Kd.R_mono (Kd.R_far (p:=⟨gb469,2,none⟩) (Kd.R_far (p:=⟨gb469,1,none⟩) (Kd.R_far (p:=⟨gb469,0,none⟩) (Kd.R_types HO467.out BK469.out (by decide)) (fun _ hk=>hk.2) (.int .i64 t463)) (fun _ hk=>hk.2) (.int .i64 t464)) (fun _ hk=>hk.2) (.slice Ao30 t465.length co30)) (fun _ hk=>trivial)))⟩;have n3_ : Aside0 (w31.heap[gb469]? = some (.cells #[.int .i64 t463,.int .i64 t464,.slice Ao30 t465.length co30] 40 (0,0))):=⟨(by rw [hw];exact (by (with_reducible repeat (first | refine blk_drewN ?_ _ | refine blk_drew ?_ | refine blk_alloc ?_ _));refine blk_put (cs:=#[.int .i64 t463,.int .i64 t464,.slice none 0 0]) ?_ 2 _ rfl;(with_reducible repeat (first | refine blk_drewN ?_ _ | refine blk_drew ?_ | refine blk_alloc ?_ _));refine blk_put (cs:=#[.int .i64 t463,.int .i64 0,.slice none 0 0]) ?_ 1 _ rfl;(with_reducible repeat (first | refine blk_drewN ?_ _ | refine blk_drew ?_ | refine blk_alloc ?_ _));refine blk_put (cs:=#[.int .i64 0,.int .i64 0,.slice none 0 0]) ?_ 0 _ rfl;(with_reducible repeat (first | refine blk_drewN ?_ _ | refine blk_drew ?_ | refine blk_alloc ?_ _));exact BK469.out))⟩;have n4_ : Aside0 (Below w.heap.size w w31):=⟨(by rw [hw];exact (hs1 HB GE469))⟩;clear hw;clear HO_6;clear HO_38;clear HO467;clear BK469;clear HB;have HO_6:=n0_;have HO_38:=n1_;have HO467:=n2_;have BK469:=n3_;have HB:=n4_;clear n0_ n1_ n2_ n3_ n4_;have hcz32_0 : w31.cell? ⟨gb469,0,none⟩ = some (.int .i64 t463):=(zCl BK469.out 0).trans rfl;have hcz32_1 : w31.cell? ⟨gb469,1,none⟩ = some (.int .i64 t464):=(zCl BK469.out 1).trans rfl;have hcz32_2 : w31.cell? ⟨gb469,2,none⟩ = some (.slice Ao30 t465.length co30):=(zCl BK469.out 2).trans rfl;have hfz32_0:=zFr BK469.out 0;have hfz32_1:=zFr BK469.out 1;have hfz32_2:=zFr BK469.out 2) | ((with_reducible refine gate_builtin (b:=.append) (xs:=#[.tmp 51,.tmp 53]) rfl ?_);at_builtin;refine Kd.S_append k40 (w0:=w) w.heap.size rfl (.tmp 51) (.tmp 53) 37 40 (.agg #[(.int .i64 0),(.int .i64 0),(.slice none 0 0)]) 40 rfl Try.underlying37 info40 rfl (by decide) (by omega) u6 x6_2 (⟨t463,t464,t465⟩ : S40) [.int .i64 t463,.int .i64 t464,.slice Ao30 t465.length co30] (fun k_=>k_ ≠ gb469) (fun k_=>some k_ = (.slice Ao30 t465.length co30 : Value).ownBlock) rfl rfl ?aP (fun k_ hk_=>((Kd.R_mono (ok':=fun k_=>((fun k_=>k_ ≠ gb469)) k_ ∧ some k_ ≠ (u6 : Value).ownBlock) (Kd.R_types (Kd.R_apart' (HO467.out) (Kd.S_typed HO_6.out) (by decide)) BK469.out (by decide)) (fun k_ hk=>⟨hk.2,hk.1.2⟩))).1 k_ hk_.symm) ?aF ?aO ?aB ?aS ?aL ?_;(case aP=>exact k40_mkM _ _ _ (⟨t463,t464,t465⟩ : S40) (Kd.R_mono (Kd.R_tight rfl (Kd.R_mono (ok':=fun k_=>((fun k_=>k_ ≠ gb469)) k_ ∧ some k_ ≠ (u6 : Value).ownBlock) (Kd.R_types (Kd.R_apart' (HO467.out) (Kd.S_typed HO_6.out) (by decide)) BK469.out (by decide)) (fun k_ hk=>⟨hk.2,hk.1.2⟩))) (fun _ h_=>h_)));(case aB=>exact (hs1 HB GE469));(case aF=>exact (fun k_ hk=>Kd.freshB (g:=gb469) (o:=.cells #[.int .i64 t463,.int .i64 t464,.slice Ao30 t465.length co30] 40 (0,0)) (bs BK469) k_ hk));(case aO=>exact (by (with_reducible repeat (first | apply Kd.S_alloc | apply Kd.S_drewN | apply Kd.S_drew));exact Kd.S_mono HO_6.out (fun k_ hk=>⟨hk.2,fun e_=>hk.1 e_⟩)));(case aS=>exact (below_size (hs1 HB GE469)));(case aL=>have:=LMc26.out;omega);intro v471 w33 ho hb hg hat;rw [← Ny470.out] at ho;have n0_:=zMk (Kd.R_over' (rs HO_38) (Kd.S_typed (ss HO_6)) (by decide) hg);have n1_:=zMk (blk_grown (g:=gb469) (o:=.cells #[.int .i64 t463,.int .i64 t464,.slice Ao30 t465.length co30] 40 (0,0)) (bs BK469) hg (Kd.S_away HO_6.out (fun _ hk=>hk.2)));have n2_:=zMk (hb);have n3_:=zMk (ho);clear HO_38;clear BK469;clear HB;clear HO_6;clear HO467;have HO_38:=n0_;have BK469:=n1_;have HB:=n2_;have HO472:=n3_;clear n0_ n1_ n2_ n3_;clear ho hb hg hat))
          (try simp only [← hl38_2])
          go_roundg k2;case measure=>have:=HK1.out;have:=HK2.out;omega
          case rel=>exact ⟨(y470),(wrap64 (x40_2 + 1)),(by first | rfl | (simp;done) | (simp [*];done)),H',⟨by have:=HK1.out;have:=HK2.out;omega⟩,⟨by (try simp only [hl38_2]);(with_reducible repeat (first | apply Kd.S_alloc | apply Kd.S_drewN | apply Kd.S_drew));exact Kd.S_mono HO472.out (fun _ hk=>trivial)⟩,⟨by (try simp only [hl38_2]);(with_reducible repeat (first | apply Kd.R_alloc | apply Kd.R_drewN | apply Kd.R_drew));exact HO_38.out⟩,⟨hs1 HB GE469⟩⟩
         rw [if_neg c26] at H;exact absurd H (by simp)
        replace c25:=Bool.eq_false_iff.mpr c25;subst c25;have H1 : (impl_Gather.l1 k2 l0 x6_2 t461 (x3_1.length : Int) (wrap64 (x40_2 + 1))) = some r:=by rw [if_neg (show ¬ (false = true) by decide)] at H;exact H
        clear H;have H:=H1;clear H1;have H':=zMk H;clear H;have p462 : 0 ≤ (x40_2 : Int):=zDe (by first | (with_reducible assumption) | assumption);have q462 : x40_2 < (t461.length : Int):=zDe (by first | (with_reducible assumption) | assumption);obtain ⟨ad462,e462,hx462_0⟩:=Kd.at_int (Kd.R_reads' HO_38.out).2.2 x40_2 p462 q462;cases e462;replace p462:=eq_true p462;replace q462:=eq_true q462;go_wp2_with (first | ((with_reducible refine gate_callee (f:=37) rfl ?_);refine goesL_ (some 47) rfl rfl Try.func37 (by kernel_rfl) rfl #[.slice A0 l0.length c0,.int .i64 (rd t461 x40_2)] rfl (by (try simp only [List.map_toArray,List.map_cons,List.map_nil]);first | done | rfl | (simp only [List.length_drop,List.length_take];rfl)) ?_;(with_reducible refine (impl_gathered.calls k2 _ _ l0 (rd t461 x40_2) t463 t464 t465 false _ ?side1 ?side2 A24.out).mono ?_);(case side1=>repeat (first | exact (Kd.C_below HR0.out HB.out) | (with_reducible refine Kd.C_alloc ?_ _) | (with_reducible refine Kd.C_drewN ?_ _) | (with_reducible refine Kd.C_drew ?_)));(case side2=>exact HC0.out);rintro e w34 ⟨v466,rfl,ho0,hb⟩;refine ⟨_,rfl,?_⟩;have n0_:=zMk (Kd.S_elder' (ss HO_6) (Kd.R_base ho0) hb);have n1_:=zMk (Kd.R_below (rs HO_38) hb);have n2_:=zMk (Kd.R_lower ho0 (below_size (hs HB)));have n3_:=zMk (below_step (hs HB) hb);clear HO_6;clear HO_38;clear HB;have HO_6:=n0_;have HO_38:=n1_;have HO467:=n2_;have HB:=n3_;clear n0_ n1_ n2_ n3_;(try clear hb);(try clear hb2);(try clear hk);(try clear hi);(try clear ho0)) | ((with_reducible refine gate_dst (N:=9) rfl ?_);refine box_event ?hg (N:=9) ?hd (cs:=#[.int .i64 0,.int .i64 0,.slice none 0 0]) (t:=40) ?hr ?_;(case hd=>rfl);(case hg=>rfl);(case hr=>first | (go_simp;done) | (go_simp;rfl));intro gb469 hg w35 hbox hb;have n0_:=zMk (Kd.S_below (Kd.S_elderB (ss HO_6) gb469 (Nat.le_of_eq hg.symm)) hb);have n1_:=zMk (Kd.R_below (rs HO_38) hb);have n2_:=zMk (Kd.R_below (rs HO467) hb);have n3_:=zMk (below_step (hs HB) hb);have n4_:=zMk (hbox);have n5_:=zMk ((by rw [hg];exact (below_size (hs HB)) : w.heap.size ≤ gb469));have n6_:=zMk ((by rw [hg];exact (below_size (hs HB)) : w.heap.size ≤ gb469));clear HO_6;clear HO_38;clear HO467;clear HB;have HO_6:=n0_;have HO_38:=n1_;have HO467:=n2_;have HB:=n3_;have BK469:=n4_;have GW469:=n5_;have GE469:=n6_;clear n0_ n1_ n2_ n3_ n4_ n5_ n6_;clear hb hbox hg;have hcz36_0 : w35.cell? ⟨gb469,0,none⟩ = some (.int .i64 0):=(zCl BK469.out 0).trans rfl;have hcz36_1 : w35.cell? ⟨gb469,1,none⟩ = some (.int .i64 0):=(zCl BK469.out 1).trans rfl;have hcz36_2 : w35.cell? ⟨gb469,2,none⟩ = some (.slice none 0 0):=(zCl BK469.out 2).trans rfl;have hfz36_0:=zFr BK469.out 0;have hfz36_1:=zFr BK469.out 1;have hfz36_2:=zFr BK469.out 2;obtain ⟨Ao37,co37,eo37⟩:=Kd.R_slice HO467.out;subst eo37))
        (try simp only [← hl38_2])
        go_roundg k2;case measure=>have:=HK1.out;have:=HK2.out;omega
        case rel=>exact ⟨(x6_2),(wrap64 (x40_2 + 1)),(by first | rfl | (simp;done) | (simp [*];done)),H',⟨by have:=HK1.out;have:=HK2.out;omega⟩,⟨by (try simp only [hl38_2]);(with_reducible repeat (first | apply Kd.S_alloc | apply Kd.S_drewN | apply Kd.S_drew));exact Kd.S_mono (Kd.S_far (p:=⟨gb469,2,none⟩) (Kd.S_far (p:=⟨gb469,1,none⟩) (Kd.S_far (p:=⟨gb469,0,none⟩) (Kd.S_mono HO_6.out (fun k_ hk=>(⟨hk,hk.2⟩ : _ ∧ k_ ≠ gb469))) (fun _ hk=>hk.2) (.int .i64 t463)) (fun _ hk=>hk.2) (.int .i64 t464)) (fun _ hk=>hk.2) (.slice Ao37 t465.length co37)) (fun _ hk=>trivial)⟩,⟨by (try simp only [hl38_2]);(with_reducible repeat (first | apply Kd.R_alloc | apply Kd.R_drewN | apply Kd.R_drew));exact Kd.R_mono (Kd.R_far (p:=⟨gb469,2,none⟩) (Kd.R_far (p:=⟨gb469,1,none⟩) (Kd.R_far (p:=⟨gb469,0,none⟩) (Kd.R_types HO_38.out BK469.out (by decide)) (fun _ hk=>hk.2) (.int .i64 t463)) (fun _ hk=>hk.2) (.int .i64 t464)) (fun _ hk=>hk.2) (.slice Ao37 t465.length co37)) (fun _ hk=>trivial)⟩,⟨hs1 HB GE469⟩⟩
       rw [if_neg c23] at H;exact absurd H (by simp)
      rw [if_neg c22] at H;exact absurd H (by simp)
     rw [if_neg c21] at H;have c21b0 : decide (x40_2 < (x3_1.length : Int)) = false:=decide_eq_false c21
     (try rw [hl38_2] at c21b0)
     clear c21;obtain rfl:=Option.some.inj H
     go_wp2
     go_ret
     exact ⟨_,by first | rfl | (simp [errW_none,errW_some] <;> rfl) | (simp [*,errW_none,errW_some] <;> rfl),ss HO_6,hs HB⟩
theorem eqA45 (d : Nat) (w : World) (x0 y0 : Int) (x1 y1 : Int) (x2 y2 : Int) (x3 y3 : Int) :
  (Op.equalIn (d + 2) 45 (.agg #[.int .i64 x0,.int .i64 x1,.int .i64 x2,.int .i64 x3]) (.agg #[.int .i64 y0,.int .i64 y1,.int .i64 y2,.int .i64 y3])).run Try.prog w = .ok (x0 == y0 && (x1 == y1 && (x2 == y2 && (x3 == y3)))) w:=by
 refine eqA_of Try.underlying45 (by kernel_rfl) ?_;refine eqf_cons (by rfl) (by go_simp;rfl) (by go_simp;rfl) (by go_simp) ?_;refine eqf_cons (by rfl) (by go_simp;rfl) (by go_simp;rfl) (by go_simp) ?_;refine eqf_cons (by rfl) (by go_simp;rfl) (by go_simp;rfl) (by go_simp) ?_;exact eqf_last (by rfl) (by go_simp;rfl) (by go_simp;rfl) (by go_simp)
attribute [local go_sem high] eqA45
def laws_sameRecs.l0 : Nat → List (S45) → List (S45) → Int → Option (Bool)
 | 0,_,_,_=>none
 | k + 1,x0,x1,x5=>if x5 < (x0.length : Int) then (if 0 ≤ x5 then (if x5 < (x1.length : Int) then (if (!(((rd_T45 x0 x5).f0) == ((rd_T45 x1 x5).f0)) || (!(((rd_T45 x0 x5).f1) == ((rd_T45 x1 x5).f1)) || (!(((rd_T45 x0 x5).f2) == ((rd_T45 x1 x5).f2)) || (!(((rd_T45 x0 x5).f3) == ((rd_T45 x1 x5).f3)))))) = true then (some false) else (laws_sameRecs.l0 k x0 x1 (wrap64 (x5 + 1)))) else (none)) else (none)) else (some true)
def laws_sameRecs.f (k : Nat) (l0 : List (S45)) (l1 : List (S45)) : Option (Bool):=if (l0.length : Int) = (l1.length : Int) then (laws_sameRecs.l0 k l0 l1 0) else (some false)
theorem laws_sameRecs.mono_l : ∀ k,(∀ y0 y1 y2,LeO (laws_sameRecs.l0 k y0 y1 y2) (laws_sameRecs.l0 (k + 1) y0 y1 y2))
 | 0=>fun _ _ _ r h=>by simp [laws_sameRecs.l0] at h
 | k + 1=>by
  have ih0:=laws_sameRecs.mono_l k;intro y0 y1 y2;unfold laws_sameRecs.l0
  repeat' first
  | (with_reducible exact ih0 _ _ _)
  | (with_reducible exact LeO.refl _)
  | (with_reducible exact LeO.none _)
  | (with_reducible refine LeO.ite ?_ ?_)
  | (with_reducible refine LeO.bind ?_ (fun _=>?_))
  | exact ih0 _ _ _
  | exact LeO.none _
  | refine LeO.ite ?_ ?_
  | refine LeO.bind ?_ (fun _=>?_)
theorem laws_sameRecs.mono : ∀ a0 a1 k,LeO (laws_sameRecs.f k a0 a1) (laws_sameRecs.f (k + 1) a0 a1):=by
 intro a0 a1 k;have ih0:=laws_sameRecs.mono_l k;unfold laws_sameRecs.f
 repeat' first
   | (with_reducible exact ih0 _ _ _)
   | (with_reducible exact LeO.refl _)
   | (with_reducible exact LeO.none _)
   | (with_reducible refine LeO.ite ?_ ?_)
   | (with_reducible refine LeO.bind ?_ (fun _=>?_))
   | exact ih0 _ _ _
   | exact LeO.none _
   | refine LeO.ite ?_ ?_
   | refine LeO.bind ?_ (fun _=>?_)
set_option maxHeartbeats 8000000 in
set_option maxRecDepth 100000 in
theorem laws_sameRecs.calls (k : Nat) (A0 : Option Addr) (c0 : Nat) (l0 : List (S45)) (A1 : Option Addr) (c1 : Nat) (l1 : List (S45)) (r : Bool) (w : World) (hr0 : Kd.C k45 w A0 l0.length l0) (hc0 : l0.length ≤ c0) (hr1 : Kd.C k45 w A1 l1.length l1) (hc1 : l1.length ≤ c1) (h : laws_sameRecs.f k l0 l1 = some r) :
  Calls Try.prog 14 #[.slice A0 l0.length c0,.slice A1 l1.length c1] w fun e w'=>e = .returned (.bool r) ∧ Drawn0 w w':=by
 have hu45:=Try.underlying45;have HR0:=zMk hr0;have HC0:=zMk hc0;clear hr0 hc0;have HR1:=zMk hr1;have HC1:=zMk hc1;clear hr1 hc1;have H : (if (l0.length : Int) = (l1.length : Int) then (laws_sameRecs.l0 k l0 l1 0) else (some false)) = some r:=h;clear h
 by_cases c3 : (l0.length : Int) = (l1.length : Int)
 ·rw [if_pos c3] at H;have c3b0 : ((l0.length : Int) == (l1.length : Int)) = true:=beq_iff_eq.mpr c3;have c3b1 : ((l0.length : Int) != (l1.length : Int)) = false:=bne_eq_false_iff_eq.mpr c3;have c3b2 : (l0.length == l1.length) = true:=by first | simpa using c3 | (simp at c3 ⊢;omega)
  clear c3;have H':=zMk H;clear H
  go_enter Try.func14,Try.ntmps14
  go_wp2_with ((fail_if_success go_not_at_region 6);go_quiet (fail));go_loopg [5] k (fun kq v5 w'=>∃ (x5_1 : Int),v5 = .int .i64 x5_1 ∧ Aside0 (laws_sameRecs.l0 kq l0 l1 x5_1 = some r) ∧ Aside0 (kq ≤ k) ∧ Drawn0 w w');case atStart=>exact ⟨(0),(by first | rfl | (simp;done) | (simp [*];done)),H',⟨Nat.le_refl _⟩,by repeat (first | exact Drawn0.refl _ | apply Drawn0.step)⟩
  case round =>
   clear H'
   try clear c1
   try clear p2
   try clear c3
   try clear c3b0
   try clear c3b1
   try clear c3b2
   obtain ⟨x5_1,rfl,HA,HK1,⟨m1,rfl⟩⟩:=hrel;cases gk with
   | zero=>exact absurd HA.out (by simp [laws_sameRecs.l0])
   | succ k1 =>
    have H:=HA.out;clear HA;simp only [laws_sameRecs.l0] at H
    by_cases c4 : x5_1 < (l0.length : Int)
    ·rw [if_pos c4] at H;have c4b0 : decide (x5_1 < (l0.length : Int)) = true:=decide_eq_true c4;clear c4
     by_cases c5 : 0 ≤ x5_1
     ·rw [if_pos c5] at H;have c5b0 : decide (0 ≤ x5_1) = true:=decide_eq_true c5;clear c5
      by_cases c6 : x5_1 < (l1.length : Int)
      ·rw [if_pos c6] at H;have c6b0 : decide (x5_1 < (l1.length : Int)) = true:=decide_eq_true c6;clear c6
       by_cases c7 : (!(((rd_T45 l0 x5_1).f0) == ((rd_T45 l1 x5_1).f0)) || (!(((rd_T45 l0 x5_1).f1) == ((rd_T45 l1 x5_1).f1)) || (!(((rd_T45 l0 x5_1).f2) == ((rd_T45 l1 x5_1).f2)) || (!(((rd_T45 l0 x5_1).f3) == ((rd_T45 l1 x5_1).f3)))))) = true
       ·rw [if_pos c7] at H;have c7b0 : (!(((rd_T45 l0 x5_1).f0) == ((rd_T45 l1 x5_1).f0)) || (!(((rd_T45 l0 x5_1).f1) == ((rd_T45 l1 x5_1).f1)) || (!(((rd_T45 l0 x5_1).f2) == ((rd_T45 l1 x5_1).f2)) || (!(((rd_T45 l0 x5_1).f3) == ((rd_T45 l1 x5_1).f3)))))) = true:=c7;clear c7;obtain rfl:=Option.some.inj H;have p473 : 0 ≤ (x5_1 : Int):=zDe (by first | (with_reducible assumption) | assumption);have q473 : x5_1 < (l0.length : Int):=zDe (by first | (with_reducible assumption) | assumption);obtain ⟨ad473,e473,hx473_0,hx473_1,hx473_2,hx473_3⟩:=at_T45 HR0.out x5_1 p473 q473;cases e473;replace p473:=eq_true p473;replace q473:=eq_true q473;have p474 : 0 ≤ (x5_1 : Int):=zDe (by first | (with_reducible assumption) | assumption);have q474 : x5_1 < (l1.length : Int):=zDe (by first | (with_reducible assumption) | assumption);obtain ⟨ad474,e474,hx474_0,hx474_1,hx474_2,hx474_3⟩:=at_T45 HR1.out x5_1 p474 q474;cases e474;replace p474:=eq_true p474;replace q474:=eq_true q474;go_wp2_with ((fail_if_success go_not_at_region 6);go_quiet (fail))
        go_ret
        exact ⟨by first | rfl | (simp;done) | (simp [*];done),by repeat (first | exact Drawn0.refl _ | apply Drawn0.step)⟩
       rw [if_neg c7] at H;have c7b0 : (!(((rd_T45 l0 x5_1).f0) == ((rd_T45 l1 x5_1).f0)) || (!(((rd_T45 l0 x5_1).f1) == ((rd_T45 l1 x5_1).f1)) || (!(((rd_T45 l0 x5_1).f2) == ((rd_T45 l1 x5_1).f2)) || (!(((rd_T45 l0 x5_1).f3) == ((rd_T45 l1 x5_1).f3)))))) = false:=by simpa using c7
       clear c7;have H':=zMk H;clear H;have p473 : 0 ≤ (x5_1 : Int):=zDe (by first | (with_reducible assumption) | assumption);have q473 : x5_1 < (l0.length : Int):=zDe (by first | (with_reducible assumption) | assumption);obtain ⟨ad473,e473,hx473_0,hx473_1,hx473_2,hx473_3⟩:=at_T45 HR0.out x5_1 p473 q473;cases e473;replace p473:=eq_true p473;replace q473:=eq_true q473;have p474 : 0 ≤ (x5_1 : Int):=zDe (by first | (with_reducible assumption) | assumption);have q474 : x5_1 < (l1.length : Int):=zDe (by first | (with_reducible assumption) | assumption);obtain ⟨ad474,e474,hx474_0,hx474_1,hx474_2,hx474_3⟩:=at_T45 HR1.out x5_1 p474 q474;cases e474;replace p474:=eq_true p474;replace q474:=eq_true q474;go_wp2_with ((fail_if_success go_not_at_region 6);go_quiet (fail));go_roundg k1;case measure=>have:=HK1.out;omega
       case rel=>exact ⟨(wrap64 (x5_1 + 1)),(by first | rfl | (simp;done) | (simp [*];done)),H',⟨by have:=HK1.out;omega⟩,by repeat (first | exact Drawn0.refl _ | apply Drawn0.step)⟩
      rw [if_neg c6] at H;exact absurd H (by simp)
     rw [if_neg c5] at H;exact absurd H (by simp)
    rw [if_neg c4] at H;have c4b0 : decide (x5_1 < (l0.length : Int)) = false:=decide_eq_false c4;clear c4;obtain rfl:=Option.some.inj H;go_wp2_with ((fail_if_success go_not_at_region 6);go_quiet (fail))
    go_ret
    exact ⟨by first | rfl | (simp;done) | (simp [*];done),by repeat (first | exact Drawn0.refl _ | apply Drawn0.step)⟩
 rw [if_neg c3] at H;have c3b0 : ((l0.length : Int) == (l1.length : Int)) = false:=beq_eq_false_iff_ne.mpr c3;have c3b1 : ((l0.length : Int) != (l1.length : Int)) = true:=bne_iff_ne.mpr c3;have c3b2 : (l0.length == l1.length) = false:=by first | simpa using c3 | (simp at c3 ⊢;omega)
 obtain rfl:=Option.some.inj H
 go_enter Try.func14,Try.ntmps14
 go_wp2_with ((fail_if_success go_not_at_region 6);go_quiet (fail))
 go_ret
 exact ⟨by first | rfl | (simp;done) | (simp [*];done),by repeat (first | exact Drawn0.refl _ | apply Drawn0.step)⟩
def impl_isBase.f (a0_0 : Int) (a0_1 : Int) (l0_2 : List (S45)) : Option (Bool):=if (l0_2.length : Int) > 0 then (if 0 < (l0_2.length : Int) then (some (((rd_T45 l0_2 0).f0) == 1)) else (none)) else (some false)
set_option maxHeartbeats 8000000 in
set_option maxRecDepth 100000 in
theorem impl_isBase.calls (a0_0 : Int) (a0_1 : Int) (A0_2 : Option Addr) (c0_2 : Nat) (l0_2 : List (S45)) (r : Bool) (w : World) (hr0_2 : Kd.C k45 w A0_2 l0_2.length l0_2) (hc0_2 : l0_2.length ≤ c0_2) (h : impl_isBase.f a0_0 a0_1 l0_2 = some r) :
  Calls Try.prog 38 #[.agg #[.int .i64 a0_0,.int .i64 a0_1,.slice A0_2 l0_2.length c0_2]] w fun e w'=>e = .returned (.bool r) ∧ Below w.heap.size w w':=by
 have hu40:=Try.underlying40;have HR0_2:=zMk hr0_2;have HC0_2:=zMk hc0_2;clear hr0_2 hc0_2;have HB:=zMk (Below.refl w.heap.size w);have H : (if (l0_2.length : Int) > 0 then (if 0 < (l0_2.length : Int) then (some (((rd_T45 l0_2 0).f0) == 1)) else (none)) else (some false)) = some r:=h;clear h
 by_cases c2 : (l0_2.length : Int) > 0
 ·rw [if_pos c2] at H;have c2b0 : decide (0 < (l0_2.length : Int)) = true:=decide_eq_true c2;have c2b1 : decide (0 < l0_2.length) = true:=decide_eq_true (by omega);clear c2
  by_cases c3 : 0 < (l0_2.length : Int)
  ·rw [if_pos c3] at H;have c3b0 : decide (0 < (l0_2.length : Int)) = true:=decide_eq_true c3;have c3b1 : decide (0 < l0_2.length) = true:=decide_eq_true (by omega);clear c3;obtain rfl:=Option.some.inj H
   go_enter Try.func38,Try.ntmps38
   go_wp2_with (first | ((with_reducible refine gate_dst (N:=1) rfl ?_);refine box_event ?hg (N:=1) ?hd (cs:=#[.int .i64 a0_0,.int .i64 a0_1,.slice A0_2 l0_2.length c0_2]) (t:=40) ?hr ?_;(case hd=>rfl);(case hg=>rfl);(case hr=>first | (go_simp;done) | (go_simp;rfl));intro gb538 hg w4 hbox hb;have n0_:=zMk (below_step (hs HB) hb);have n1_:=zMk (hbox);have n2_:=zMk ((by rw [hg];exact (below_size (hs HB)) : w.heap.size ≤ gb538));have n3_:=zMk ((by rw [hg];exact (below_size (hs HB)) : w.heap.size ≤ gb538));clear HB;have HB:=n0_;have BK538:=n1_;have GW538:=n2_;have GE538:=n3_;clear n0_ n1_ n2_ n3_;clear hb hbox hg;have hcz5_0 : w4.cell? ⟨gb538,0,none⟩ = some (.int .i64 a0_0):=(zCl BK538.out 0).trans rfl;have hcz5_1 : w4.cell? ⟨gb538,1,none⟩ = some (.int .i64 a0_1):=(zCl BK538.out 1).trans rfl;have hcz5_2 : w4.cell? ⟨gb538,2,none⟩ = some (.slice A0_2 l0_2.length c0_2):=(zCl BK538.out 2).trans rfl;have hfz5_0:=zFr BK538.out 0;have hfz5_1:=zFr BK538.out 1;have hfz5_2:=zFr BK538.out 2;have p539 : 0 ≤ (0 : Int):=(by omega);have q539 : 0 < (l0_2.length : Int):=zDe (by first | (with_reducible assumption) | assumption);obtain ⟨ad539,e539,hx539_0,hx539_1,hx539_2,hx539_3⟩:=at_T45 HR0_2.out 0 p539 q539;cases e539;have qi539 : (0 < l0_2.length) = True:=eq_true (by omega);(try rw [show ((0 : Int)).toNat = 0 from rfl] at hx539_0);(try rw [show 0 * 4 = 0 from rfl] at hx539_0);(try rw [Addr.add_zero'] at hx539_0);(try rw [show ((0 : Int)).toNat = 0 from rfl] at hx539_1);(try rw [show 0 * 4 = 0 from rfl] at hx539_1);(try rw [Addr.add_zero'] at hx539_1);(try rw [show ((0 : Int)).toNat = 0 from rfl] at hx539_2);(try rw [show 0 * 4 = 0 from rfl] at hx539_2);(try rw [Addr.add_zero'] at hx539_2);(try rw [show ((0 : Int)).toNat = 0 from rfl] at hx539_3);(try rw [show 0 * 4 = 0 from rfl] at hx539_3);(try rw [Addr.add_zero'] at hx539_3);replace hx539_0:=(HB.out.cell (zBl w _ hx539_0)).trans hx539_0;replace hx539_1:=(HB.out.cell (zBl w _ hx539_1)).trans hx539_1;replace hx539_2:=(HB.out.cell (zBl w _ hx539_2)).trans hx539_2;replace hx539_3:=(HB.out.cell (zBl w _ hx539_3)).trans hx539_3;replace p539:=eq_true p539;replace q539:=eq_true q539))
   go_ret
   exact ⟨by first | rfl | (simp [errW_none,errW_some] <;> rfl) | (simp [*,errW_none,errW_some] <;> rfl),hs1 HB GE538⟩
  rw [if_neg c3] at H;exact absurd H (by simp)
 rw [if_neg c2] at H;have c2b0 : decide (0 < (l0_2.length : Int)) = false:=decide_eq_false c2;have c2b1 : decide (0 < l0_2.length) = false:=decide_eq_false (by omega);clear c2;obtain rfl:=Option.some.inj H
 go_enter Try.func38,Try.ntmps38
 go_wp2_with (first | ((with_reducible refine gate_dst (N:=1) rfl ?_);refine box_event ?hg (N:=1) ?hd (cs:=#[.int .i64 a0_0,.int .i64 a0_1,.slice A0_2 l0_2.length c0_2]) (t:=40) ?hr ?_;(case hd=>rfl);(case hg=>rfl);(case hr=>first | (go_simp;done) | (go_simp;rfl));intro gb538 hg w6 hbox hb;have n0_:=zMk (below_step (hs HB) hb);have n1_:=zMk (hbox);have n2_:=zMk ((by rw [hg];exact (below_size (hs HB)) : w.heap.size ≤ gb538));have n3_:=zMk ((by rw [hg];exact (below_size (hs HB)) : w.heap.size ≤ gb538));clear HB;have HB:=n0_;have BK538:=n1_;have GW538:=n2_;have GE538:=n3_;clear n0_ n1_ n2_ n3_;clear hb hbox hg;have hcz7_0 : w6.cell? ⟨gb538,0,none⟩ = some (.int .i64 a0_0):=(zCl BK538.out 0).trans rfl;have hcz7_1 : w6.cell? ⟨gb538,1,none⟩ = some (.int .i64 a0_1):=(zCl BK538.out 1).trans rfl;have hcz7_2 : w6.cell? ⟨gb538,2,none⟩ = some (.slice A0_2 l0_2.length c0_2):=(zCl BK538.out 2).trans rfl;have hfz7_0:=zFr BK538.out 0;have hfz7_1:=zFr BK538.out 1;have hfz7_2:=zFr BK538.out 2))
 go_ret
 exact ⟨by first | rfl | (simp [errW_none,errW_some] <;> rfl) | (simp [*,errW_none,errW_some] <;> rfl),hs1 HB GE538⟩
mutual
def impl_SinceBase.l0 : Nat → List (S40) → Int → List (S40) → Int → Int → Option ((List (S40)))
 | 0,_,_,_,_,_=>none
 | k + 1,x0,x3,x9,x10,x11=>if x11 < x10 then (if 0 ≤ x11 then (if x11 < (x9.length : Int) then ((impl_isBase.f ((rd_T40 x9 x11).f0) ((rd_T40 x9 x11).f1) ((rd_T40 x9 x11).f2)).bind fun t542=>(if t542 = true then (impl_SinceBase.l0 k x0 x11 x9 x10 (wrap64 (x11 + 1))) else (impl_SinceBase.l0 k x0 x3 x9 x10 (wrap64 (x11 + 1))))) else (none)) else (none)) else (if 0 ≤ x3 then (if x3 ≤ (x0.length : Int) then ((some (x0.drop (x3 : Int).toNat : List (S40))).bind fun y543=>(impl_SinceBase.l1 k ([] : List (S40)) y543 (y543.length : Int) 0)) else (none)) else (none))
def impl_SinceBase.l1 : Nat → List (S40) → List (S40) → Int → Int → Option ((List (S40)))
 | 0,_,_,_,_=>none
 | k + 1,x6,x22,x23,x24=>if x24 < x23 then (if 0 ≤ x24 then (if x24 < (x22.length : Int) then (if ([] : List (S45)).length + ((rd_T40 x22 x24).f2).length < 4398046511104 then (if x6.length < 3518437208883 then (impl_SinceBase.l1 k (x6 ++ [(⟨(rd_T40 x22 x24).f0,(rd_T40 x22 x24).f1,(([] : List (S45)) ++ ((rd_T40 x22 x24).f2))⟩ : S40)]) x22 x23 (wrap64 (x24 + 1))) else (none)) else (none)) else (none)) else (none)) else (some x6)
end
def impl_SinceBase.f (k : Nat) (l0 : List (S40)) : Option ((List (S40))):=impl_SinceBase.l0 k l0 0 l0 (l0.length : Int) 0
theorem impl_SinceBase.mono_l : ∀ k,(∀ y0 y1 y2 y3 y4,LeO (impl_SinceBase.l0 k y0 y1 y2 y3 y4) (impl_SinceBase.l0 (k + 1) y0 y1 y2 y3 y4)) ∧ (∀ y0 y1 y2 y3,LeO (impl_SinceBase.l1 k y0 y1 y2 y3) (impl_SinceBase.l1 (k + 1) y0 y1 y2 y3))
 | 0=>⟨fun _ _ _ _ _ r h=>by simp [impl_SinceBase.l0] at h,fun _ _ _ _ r h=>by simp [impl_SinceBase.l1] at h⟩
 | k + 1=>by
  obtain ⟨ih0,ih1⟩:=impl_SinceBase.mono_l k;refine ⟨?_,?_⟩
  ·intro y0 y1 y2 y3 y4;unfold impl_SinceBase.l0
   repeat' first
   | (with_reducible exact ih0 _ _ _ _ _)
   | (with_reducible exact ih1 _ _ _ _)
   | (with_reducible exact LeO.refl _)
   | (with_reducible exact LeO.none _)
   | (with_reducible refine LeO.ite ?_ ?_)
   | (with_reducible refine LeO.bind ?_ (fun _=>?_))
   | exact ih0 _ _ _ _ _
   | exact ih1 _ _ _ _
   | exact LeO.none _
   | refine LeO.ite ?_ ?_
   | refine LeO.bind ?_ (fun _=>?_)
  intro y0 y1 y2 y3;unfold impl_SinceBase.l1
  repeat' first
  | (with_reducible exact ih0 _ _ _ _ _)
  | (with_reducible exact ih1 _ _ _ _)
  | (with_reducible exact LeO.refl _)
  | (with_reducible exact LeO.none _)
  | (with_reducible refine LeO.ite ?_ ?_)
  | (with_reducible refine LeO.bind ?_ (fun _=>?_))
  | exact ih0 _ _ _ _ _
  | exact ih1 _ _ _ _
  | exact LeO.none _
  | refine LeO.ite ?_ ?_
  | refine LeO.bind ?_ (fun _=>?_)
theorem impl_SinceBase.mono : ∀ a0 k,LeO (impl_SinceBase.f k a0) (impl_SinceBase.f (k + 1) a0):=by
 intro a0 k;obtain ⟨ih0,ih1⟩:=impl_SinceBase.mono_l k;unfold impl_SinceBase.f
 repeat' first
   | (with_reducible exact ih0 _ _ _ _ _)
   | (with_reducible exact ih1 _ _ _ _)
   | (with_reducible exact LeO.refl _)
   | (with_reducible exact LeO.none _)
   | (with_reducible refine LeO.ite ?_ ?_)
   | (with_reducible refine LeO.bind ?_ (fun _=>?_))
   | exact ih0 _ _ _ _ _
   | exact ih1 _ _ _ _
   | exact LeO.none _
   | refine LeO.ite ?_ ?_
   | refine LeO.bind ?_ (fun _=>?_)
set_option maxHeartbeats 8000000 in
set_option maxRecDepth 100000 in
theorem impl_SinceBase.calls (k : Nat) (A0 : Option Addr) (c0 : Nat) (l0 : List (S40)) (r : List (S40)) (w : World) (hr0 : Kd.C k40 w A0 l0.length l0) (hc0 : l0.length ≤ c0) (h : impl_SinceBase.f k l0 = some r) :
  Calls Try.prog 16 #[.slice A0 l0.length c0] w fun e w'=>∃ v0_ : Value,e = .returned (v0_) ∧ Kd.S k40 40 w' w.heap.size (fun _=>True) v0_ r ∧ Below w.heap.size w w':=by
 have hu40:=Try.underlying40;have HR0:=zMk hr0;have HC0:=zMk hc0;clear hr0 hc0;have HB:=zMk (Below.refl w.heap.size w);have H : (impl_SinceBase.l0 k l0 0 l0 (l0.length : Int) 0) = some r:=h;clear h;have H':=zMk H;clear H
 go_enter Try.func16,Try.ntmps16
 go_wp2
 go_loopg [3,11] k (fun kq v3 v11 w'=>∃ (x3_1 : Int) (x11_1 : Int),v3 = .int .i64 x3_1 ∧ v11 = .int .i64 x11_1 ∧ Aside0 (impl_SinceBase.l0 kq l0 x3_1 l0 (l0.length : Int) x11_1 = some r) ∧ Aside0 (kq ≤ k) ∧ Aside0 (Below w.heap.size w w'));case atStart=>exact ⟨(0),(0),(by first | rfl | (simp;done) | (simp [*];done)),(by first | rfl | (simp;done) | (simp [*];done)),H',⟨Nat.le_refl _⟩,⟨hs HB⟩⟩
 case round =>
  clear H'
  try clear c1
  obtain ⟨x3_1,x11_1,rfl,rfl,HA,HK1,HB⟩:=hrel;cases gk with
  | zero=>exact absurd HA.out (by simp [impl_SinceBase.l0])
  | succ k1 =>
   have H:=HA.out;clear HA;simp only [impl_SinceBase.l0] at H
   by_cases c2 : x11_1 < (l0.length : Int)
   ·rw [if_pos c2] at H;have c2b0 : decide (x11_1 < (l0.length : Int)) = true:=decide_eq_true c2;clear c2
    by_cases c3 : 0 ≤ x11_1
    ·rw [if_pos c3] at H;have c3b0 : decide (0 ≤ x11_1) = true:=decide_eq_true c3;clear c3
     by_cases c4 : x11_1 < (l0.length : Int)
     ·rw [if_pos c4] at H;have c4b0 : decide (x11_1 < (l0.length : Int)) = true:=decide_eq_true c4;clear c4;replace H:=Option.bind_eq_some_iff.mp H;obtain ⟨t542,A50,H⟩:=H;replace H : (if t542 = true then (impl_SinceBase.l0 k1 l0 x11_1 l0 (l0.length : Int) (wrap64 (x11_1 + 1))) else (impl_SinceBase.l0 k1 l0 x3_1 l0 (l0.length : Int) (wrap64 (x11_1 + 1)))) = some r:=H;have A5:=zMk A50;clear A50;have p540 : 0 ≤ (x11_1 : Int):=zDe (by first | (with_reducible assumption) | assumption);have q540 : x11_1 < (l0.length : Int):=zDe (by first | (with_reducible assumption) | assumption);obtain ⟨ad540,A540_2,c540_2,e540,hx540_0,hx540_1,hx540_2,hl540_2,hi540_2⟩:=at_T40 HR0.out x11_1 p540 q540;cases e540;replace hx540_0:=(HB.out.cell (zBl w _ hx540_0)).trans hx540_0;replace hx540_1:=(HB.out.cell (zBl w _ hx540_1)).trans hx540_1;replace hx540_2:=(HB.out.cell (zBl w _ hx540_2)).trans hx540_2;have HR540_2:=zMk hi540_2;have HC540_2:=zMk hl540_2;clear hi540_2 hl540_2;replace p540:=eq_true p540;replace q540:=eq_true q540
      go_upto_if 17 with (first | ((with_reducible refine gate_dst (N:=5) rfl ?_);refine box_event ?hg (N:=5) ?hd (cs:=#[.int .i64 0,.int .i64 0,.slice none 0 0]) (t:=40) ?hr ?_;(case hd=>rfl);(case hg=>rfl);(case hr=>first | (go_simp;done) | (go_simp;rfl));intro gb541 hg w7 hbox hb;have n0_:=zMk (below_step (hs HB) hb);have n1_:=zMk (hbox);have n2_:=zMk ((by rw [hg];exact (below_size (hs HB)) : w.heap.size ≤ gb541));have n3_:=zMk ((by rw [hg];exact (below_size (hs HB)) : w.heap.size ≤ gb541));clear HB;have HB:=n0_;have BK541:=n1_;have GW541:=n2_;have GE541:=n3_;clear n0_ n1_ n2_ n3_;clear hb hbox hg;have hcz8_0 : w7.cell? ⟨gb541,0,none⟩ = some (.int .i64 0):=(zCl BK541.out 0).trans rfl;have hcz8_1 : w7.cell? ⟨gb541,1,none⟩ = some (.int .i64 0):=(zCl BK541.out 1).trans rfl;have hcz8_2 : w7.cell? ⟨gb541,2,none⟩ = some (.slice none 0 0):=(zCl BK541.out 2).trans rfl;have hfz8_0:=zFr BK541.out 0;have hfz8_1:=zFr BK541.out 1;have hfz8_2:=zFr BK541.out 2) | ((with_reducible refine gate_callee (f:=38) rfl ?_);refine goesL_ (some 17) rfl rfl Try.func38 (by kernel_rfl) rfl #[.agg #[.int .i64 ((rd_T40 l0 x11_1).f0),.int .i64 ((rd_T40 l0 x11_1).f1),.slice A540_2 ((rd_T40 l0 x11_1).f2).length c540_2]] rfl (by (try simp only [List.map_toArray,List.map_cons,List.map_nil]);first | done | rfl | (simp only [List.length_drop,List.length_take];rfl)) ?_;(with_reducible refine (impl_isBase.calls ((rd_T40 l0 x11_1).f0) ((rd_T40 l0 x11_1).f1) _ _ ((rd_T40 l0 x11_1).f2) t542 _ ?side1 ?side2 A5.out).mono ?_);(case side1=>exact Kd.C_below HR540_2.out (hs1 HB GE541));(case side2=>exact HC540_2.out);rintro e w9 ⟨rfl,hb⟩;refine ⟨_,rfl,?_⟩;have n0_:=zMk (blk_below (g:=gb541) (o:=.cells #[.int .i64 ((rd_T40 l0 x11_1).f0),.int .i64 ((rd_T40 l0 x11_1).f1),.slice A540_2 ((rd_T40 l0 x11_1).f2).length c540_2] 40 (0,0)) (by (with_reducible repeat (first | refine blk_drewN ?_ _ | refine blk_drew ?_ | refine blk_alloc ?_ _));refine blk_put (cs:=#[.int .i64 ((rd_T40 l0 x11_1).f0),.int .i64 ((rd_T40 l0 x11_1).f1),.slice none 0 0]) ?_ 2 _ rfl;(with_reducible repeat (first | refine blk_drewN ?_ _ | refine blk_drew ?_ | refine blk_alloc ?_ _));refine blk_put (cs:=#[.int .i64 ((rd_T40 l0 x11_1).f0),.int .i64 0,.slice none 0 0]) ?_ 1 _ rfl;(with_reducible repeat (first | refine blk_drewN ?_ _ | refine blk_drew ?_ | refine blk_alloc ?_ _));refine blk_put (cs:=#[.int .i64 0,.int .i64 0,.slice none 0 0]) ?_ 0 _ rfl;(with_reducible repeat (first | refine blk_drewN ?_ _ | refine blk_drew ?_ | refine blk_alloc ?_ _));exact BK541.out) hb);have n1_:=zMk (below_step (hs1 HB GE541) hb);clear BK541;clear HB;have BK541:=n0_;have HB:=n1_;clear n0_ n1_;(try clear hb);(try clear hb2);(try clear hk);(try clear hi)))
      (try simp only [Act.put,zS1,zS2,zS3])
      by_cases c6 : t542 = true
      ·subst c6;have H1 : (impl_SinceBase.l0 k1 l0 x11_1 l0 (l0.length : Int) (wrap64 (x11_1 + 1))) = some r:=by rw [if_pos rfl] at H;exact H
       clear H;have H:=H1;clear H1;have H':=zMk H;clear H
       go_wp2
       go_roundg k1;case measure=>have:=HK1.out;omega
       case rel=>exact ⟨(x11_1),(wrap64 (x11_1 + 1)),(by first | rfl | (simp;done) | (simp [*];done)),(by first | rfl | (simp;done) | (simp [*];done)),H',⟨by have:=HK1.out;omega⟩,⟨hs1 HB GE541⟩⟩
      replace c6:=Bool.eq_false_iff.mpr c6;subst c6;have H1 : (impl_SinceBase.l0 k1 l0 x3_1 l0 (l0.length : Int) (wrap64 (x11_1 + 1))) = some r:=by rw [if_neg (show ¬ (false = true) by decide)] at H;exact H
      clear H;have H:=H1;clear H1;have H':=zMk H;clear H
      go_wp2
      go_roundg k1;case measure=>have:=HK1.out;omega
      case rel=>exact ⟨(x3_1),(wrap64 (x11_1 + 1)),(by first | rfl | (simp;done) | (simp [*];done)),(by first | rfl | (simp;done) | (simp [*];done)),H',⟨by have:=HK1.out;omega⟩,⟨hs1 HB GE541⟩⟩
     rw [if_neg c4] at H;exact absurd H (by simp)
    rw [if_neg c3] at H;exact absurd H (by simp)
   rw [if_neg c2] at H;have c2b0 : decide (x11_1 < (l0.length : Int)) = false:=decide_eq_false c2;clear c2
   by_cases c13 : 0 ≤ x3_1
   ·rw [if_pos c13] at H;have c13b0:=eq_true c13;have c13b1 : decide (0 ≤ x3_1) = true:=decide_eq_true c13;clear c13
    by_cases c14 : x3_1 ≤ (l0.length : Int)
    ·rw [if_pos c14] at H;have c14b0:=eq_true c14;have c14b1 : decide (x3_1 ≤ (l0.length : Int)) = true:=decide_eq_true c14;clear c14;obtain ⟨y543,hy543⟩ : ∃ y_ : List (S40),y_ = (l0.drop (x3_1 : Int).toNat):=⟨_,rfl⟩;replace H : (impl_SinceBase.l1 k1 ([] : List (S40)) y543 (y543.length : Int) 0) = some r:=by first | (rw [hy543];with_reducible exact H) | (have H2_:=(Option.bind_some _ _).symm.trans H;rw [hy543];with_reducible exact H2_) | (have H2_:=(Option.bind_some _ _).symm.trans H;with_reducible exact H2_) | with_reducible exact H | (rw [hy543];exact H) | exact H
     have Ny543:=zMk hy543;clear hy543;have H':=zMk H;clear H;have q15 : (x3_1 : Int) ≤ ((l0.length : Int) : Int):=zDe (by first | (with_reducible assumption) | assumption);obtain ⟨i015,hi015,_,hsz15,_⟩:=info_parts info40;have hroom15 : l0.length ≤ c0:=HC0.out;have hC15 : Kd.C k40 _ A0 l0.length l0:=HR0.out;have q015 : (0 : Int) ≤ (x3_1 : Int):=zDe (by first | (with_reducible assumption) | assumption);have hcut15:=cut_from (P:=Try.prog) 37 40 .i64 Try.underlying37 hi015 3 hsz15 A0 l0.length c0 x3_1 q015 q15;have hr15:=Kd.C_drop (m:=(x3_1 : Int).toNat) (c:=c0) hC15 (by omega) hroom15;obtain ⟨A15,hA15⟩ : ∃ A1,A1 = (if c0 = (x3_1 : Int).toNat then A0 else (A0 : Option Addr).map (·.add ((x3_1 : Int).toNat * 3))):=⟨_,rfl⟩;obtain ⟨c15,hc15⟩ : ∃ c1,c1 = c0 - (x3_1 : Int).toNat:=⟨_,rfl⟩;have hy15 : y543.length = l0.length - (x3_1 : Int).toNat:=(by rw [Ny543.out,List.length_drop] <;> omega);rw [show (l0).drop (x3_1 : Int).toNat = y543 from Ny543.out.symm] at hr15;replace hr15 : Kd.C k40 _ A15 y543.length y543:=(by rw [hA15];exact hr15);rw [← hy15,← hA15,← hc15] at hcut15;have HR546:=zMk hr15;have HC546:=zMk (show y543.length ≤ c15 from by rw [hy15,hc15];exact Nat.sub_le_sub_right hroom15 _);clear hr15 hC15 hroom15 hi015 hsz15 hc15;have KY15:=zMk hy15;have KA15:=zMk hA15;clear hy15 hA15;replace q15:=eq_true q15
     go_wp2
     go_loopg [6,24] k1 (fun kq v6 v24 w'=>∃ (x6_2 : List (S40)) (x24_2 : Int),v24 = .int .i64 x24_2 ∧ Aside0 (impl_SinceBase.l1 kq x6_2 y543 (y543.length : Int) x24_2 = some r) ∧ Aside0 (kq ≤ k1) ∧ Aside0 (Kd.S k40 40 w' w.heap.size (fun _=>True) v6 x6_2) ∧ Aside0 (Below w.heap.size w w'));case atStart=>exact ⟨(([] : List (S40))),(0),(by first | rfl | (simp;done) | (simp [*];done)),H',⟨Nat.le_refl _⟩,⟨by first | exact Kd.S_nil _ _ _ _ _ | exact Kd.N_nil _ _ _ _ _ | exact Kd.V_nil _ _ _ _ _ | exact Kd.Q_nil _ _ _ _ _ | exact Kd.R_nil _ _ _ _ _⟩,⟨hs HB⟩⟩
     case round =>
      clear H'
      try clear c1
      try clear q1
      try clear c2
      try clear c2b0
      try clear p2
      try clear c3
      try clear c3b0
      try clear c4
      try clear c4b0
      try clear c5
      try clear p5
      try clear q5
      try clear hx5
      try clear c6
      try clear p6
      try clear c13
      try clear c13b0
      try clear c13b1
      try clear c14
      try clear c14b0
      try clear c14b1
      try clear c15
      try clear q15
      try clear hcz11_0
      try clear hcz11_1
      try clear hcz11_2
      try clear hcz8_0
      try clear hcz8_1
      try clear hcz8_2
      try clear hfz11_0
      try clear hfz11_1
      try clear hfz11_2
      try clear hfz8_0
      try clear hfz8_1
      try clear hfz8_2
      try clear hx540_0
      try clear hx540_1
      try clear hx540_2
      try clear p540
      try clear q015
      try clear q15
      try clear q540
      obtain ⟨x6_2,x24_2,rfl,HA,HK2,HO_6,HB⟩:=hrel;cases gk with
      | zero=>exact absurd HA.out (by simp [impl_SinceBase.l1])
      | succ k2 =>
       have H:=HA.out;clear HA;simp only [impl_SinceBase.l1] at H
       by_cases c16 : x24_2 < (y543.length : Int)
       ·rw [if_pos c16] at H;have c16b0 : decide (x24_2 < (y543.length : Int)) = true:=decide_eq_true c16;clear c16
        by_cases c17 : 0 ≤ x24_2
        ·rw [if_pos c17] at H;have c17b0 : decide (0 ≤ x24_2) = true:=decide_eq_true c17;clear c17
         by_cases c18 : x24_2 < (y543.length : Int)
         ·rw [if_pos c18] at H;have c18b0 : decide (x24_2 < (y543.length : Int)) = true:=decide_eq_true c18;clear c18
          by_cases c19 : ([] : List (S45)).length + ((rd_T40 y543 x24_2).f2).length < 4398046511104
          ·rw [if_pos c19] at H;have LMc19:=zMk c19;clear c19;obtain ⟨y549,hy549⟩ : ∃ y_ : List (S45),y_ = (([] : List (S45)) ++ ((rd_T40 y543 x24_2).f2)):=⟨_,rfl⟩;replace H : (if x6_2.length < 3518437208883 then (impl_SinceBase.l1 k2 (x6_2 ++ [(⟨(rd_T40 y543 x24_2).f0,(rd_T40 y543 x24_2).f1,y549⟩ : S40)]) y543 (y543.length : Int) (wrap64 (x24_2 + 1))) else (none)) = some r:=by first | (rw [hy549];with_reducible exact H) | (have H2_:=(Option.bind_some _ _).symm.trans H;rw [hy549];with_reducible exact H2_) | (have H2_:=(Option.bind_some _ _).symm.trans H;with_reducible exact H2_) | with_reducible exact H | (rw [hy549];exact H) | exact H
           have Ny549:=zMk hy549;clear hy549
           by_cases c20 : x6_2.length < 3518437208883
           ·rw [if_pos c20] at H;have LMc20:=zMk c20;clear c20;obtain ⟨y552,hy552⟩ : ∃ y_ : List (S40),y_ = (x6_2 ++ [(⟨(rd_T40 y543 x24_2).f0,(rd_T40 y543 x24_2).f1,y549⟩ : S40)]):=⟨_,rfl⟩;replace H : (impl_SinceBase.l1 k2 y552 y543 (y543.length : Int) (wrap64 (x24_2 + 1))) = some r:=by first | (rw [hy552];with_reducible exact H) | (have H2_:=(Option.bind_some _ _).symm.trans H;rw [hy552];with_reducible exact H2_) | (have H2_:=(Option.bind_some _ _).symm.trans H;with_reducible exact H2_) | with_reducible exact H | (rw [hy552];exact H) | exact H
            have Ny552:=zMk hy552;clear hy552;have H':=zMk H;clear H;have p547 : 0 ≤ (x24_2 : Int):=zDe (by first | (with_reducible assumption) | assumption);have q547 : x24_2 < (y543.length : Int):=zDe (by first | (with_reducible assumption) | assumption);obtain ⟨ad547,A547_2,c547_2,e547,hx547_0,hx547_1,hx547_2,hl547_2,hi547_2⟩:=at_T40 HR546.out x24_2 p547 q547;cases e547;replace hx547_0:=(HB.out.cell (zBl w _ hx547_0)).trans hx547_0;replace hx547_1:=(HB.out.cell (zBl w _ hx547_1)).trans hx547_1;replace hx547_2:=(HB.out.cell (zBl w _ hx547_2)).trans hx547_2;have HR547_2:=zMk hi547_2;have HC547_2:=zMk hl547_2;clear hi547_2 hl547_2;replace p547:=eq_true p547;replace q547:=eq_true q547;go_wp2_with (first | ((with_reducible refine gate_dst (N:=8) rfl ?_);refine box_event ?hg (N:=8) ?hd (cs:=#[.int .i64 0,.int .i64 0,.slice none 0 0]) (t:=40) ?hr ?_;(case hd=>rfl);(case hg=>rfl);(case hr=>first | (go_simp;done) | (go_simp;rfl));intro gb548 hg w21 hbox hb;have n0_:=zMk (Kd.S_below (Kd.S_elderB (ss HO_6) gb548 (Nat.le_of_eq hg.symm)) hb);have n1_:=zMk (below_step (hs HB) hb);have n2_:=zMk (hbox);have n3_:=zMk ((by rw [hg];exact (below_size (hs HB)) : w.heap.size ≤ gb548));have n4_:=zMk ((by rw [hg];exact (below_size (hs HB)) : w.heap.size ≤ gb548));clear HO_6;clear HB;have HO_6:=n0_;have HB:=n1_;have BK548:=n2_;have GW548:=n3_;have GE548:=n4_;clear n0_ n1_ n2_ n3_ n4_;clear hb hbox hg;have hcz22_0 : w21.cell? ⟨gb548,0,none⟩ = some (.int .i64 0):=(zCl BK548.out 0).trans rfl;have hcz22_1 : w21.cell? ⟨gb548,1,none⟩ = some (.int .i64 0):=(zCl BK548.out 1).trans rfl;have hcz22_2 : w21.cell? ⟨gb548,2,none⟩ = some (.slice none 0 0):=(zCl BK548.out 2).trans rfl;have hfz22_0:=zFr BK548.out 0;have hfz22_1:=zFr BK548.out 1;have hfz22_2:=zFr BK548.out 2) | ((with_reducible refine gate_builtin (b:=.append) (xs:=#[(.const (.slice none 0 0)),.tmp 29]) rfl ?_);at_builtin;refine Kd.R_append_rows k45 (w0:=w) w.heap.size rfl (.const (.slice none 0 0)) (.tmp 29) 24 45 (.agg #[(.int .i64 0),(.int .i64 0),(.int .i64 0),(.int .i64 0)]) 32 rfl Try.underlying24 info45 rfl (by decide) (by omega) (.slice none 0 0) ([] : List (S45)) ((rd_T40 y543 x24_2).f2) _ _ _ (fun _=>True) (fun _=>False) rfl rfl ?aO ?aR (fun _ _ h=>h) (fun _ h=>h.elim) ?aF ?aB ?aS ?aL ?_;(case aR=>exact Kd.C_below HR547_2.out (hs1 HB GE548));(case aB=>exact (hs1 HB GE548));(case aF=>exact (fun _ _=>trivial));(case aO=>exact ((Kd.R_nil _ _ _ _ (fun _=>True))));(case aS=>exact (below_size (hs1 HB GE548)));(case aL=>have:=LMc19.out;omega);intro v550 w23 ho hb hg hat;rw [← Ny549.out] at ho;have n0_:=zMk (Kd.S_after (Kd.S_apart_nil (by (with_reducible repeat (first | apply Kd.S_alloc | apply Kd.S_drewN | apply Kd.S_drew));exact (Kd.S_mono (Kd.S_far (p:=⟨gb548,2,none⟩) (Kd.S_far (p:=⟨gb548,1,none⟩) (Kd.S_far (p:=⟨gb548,0,none⟩) (Kd.S_mono HO_6.out (fun k_ hk=>(⟨hk,hk.2⟩ : _ ∧ k_ ≠ gb548))) (fun _ hk=>hk.2) (.int .i64 ((rd_T40 y543 x24_2).f0))) (fun _ hk=>hk.2) (.int .i64 ((rd_T40 y543 x24_2).f1))) (fun _ hk=>hk.2) (.slice A547_2 ((rd_T40 y543 x24_2).f2).length c547_2)) (fun _ h_=>h_.1)))) hg hat);have n1_:=zMk (blk_grown (g:=gb548) (o:=.cells #[.int .i64 ((rd_T40 y543 x24_2).f0),.int .i64 ((rd_T40 y543 x24_2).f1),.slice A547_2 ((rd_T40 y543 x24_2).f2).length c547_2] 40 (0,0)) (by (with_reducible repeat (first | refine blk_drewN ?_ _ | refine blk_drew ?_ | refine blk_alloc ?_ _));refine blk_put (cs:=#[.int .i64 ((rd_T40 y543 x24_2).f0),.int .i64 ((rd_T40 y543 x24_2).f1),.slice none 0 0]) ?_ 2 _ rfl;(with_reducible repeat (first | refine blk_drewN ?_ _ | refine blk_drew ?_ | refine blk_alloc ?_ _));refine blk_put (cs:=#[.int .i64 ((rd_T40 y543 x24_2).f0),.int .i64 0,.slice none 0 0]) ?_ 1 _ rfl;(with_reducible repeat (first | refine blk_drewN ?_ _ | refine blk_drew ?_ | refine blk_alloc ?_ _));refine blk_put (cs:=#[.int .i64 0,.int .i64 0,.slice none 0 0]) ?_ 0 _ rfl;(with_reducible repeat (first | refine blk_drewN ?_ _ | refine blk_drew ?_ | refine blk_alloc ?_ _));exact BK548.out) hg (by simp [Value.ownBlock]));have n2_:=zMk (hb);have n3_:=zMk (ho);clear HO_6;clear BK548;clear HB;have HO_6:=n0_;have BK548:=n1_;have HB:=n2_;have HO551:=n3_;clear n0_ n1_ n2_ n3_;clear ho hb hg hat;obtain ⟨Ao24,co24,eo24⟩:=Kd.R_slice HO551.out;subst eo24;have hcz25_0 : w23.cell? ⟨gb548,0,none⟩ = some (.int .i64 ((rd_T40 y543 x24_2).f0)):=(zCl BK548.out 0).trans rfl;have hcz25_1 : w23.cell? ⟨gb548,1,none⟩ = some (.int .i64 ((rd_T40 y543 x24_2).f1)):=(zCl BK548.out 1).trans rfl;have hcz25_2 : w23.cell? ⟨gb548,2,none⟩ = some (.slice A547_2 ((rd_T40 y543 x24_2).f2).length c547_2):=(zCl BK548.out 2).trans rfl;have hfz25_0:=zFr BK548.out 0;have hfz25_1:=zFr BK548.out 1;have hfz25_2:=zFr BK548.out 2) | ((with_reducible refine gate_store (t:=24) (p:=31) rfl ?_);refine store_event (t:=24) (p:=31) (v:=?vo_w26) (w1:=(w23.setCell ⟨gb548,2,none⟩ (.slice Ao24 y549.length co24))) ?hg ?ho ?hn ?hr ?_;(case ho=>rfl);(case hg=>rfl);(case hn=>rfl);(case hr=>first | (go_simp;done) | (go_simp;rfl));intro w26 hw;have n0_ : Aside0 (Kd.S k40 40 w26 w.heap.size (fun k_=>some k_ ≠ (.slice Ao24 y549.length co24 : Value).ownBlock ∧ k_ ≠ gb548) u6 x6_2):=⟨(by rw [hw];exact (by (with_reducible repeat (first | apply Kd.S_alloc | apply Kd.S_drewN | apply Kd.S_drew));exact Kd.S_mono (Kd.S_far (p:=⟨gb548,2,none⟩) (Kd.S_mono HO_6.out (fun k_ hk=>(⟨hk,hk.1.2⟩ : _ ∧ k_ ≠ gb548))) (fun _ hk=>hk.2) (.slice Ao24 y549.length co24)) (fun _ hk=>⟨hk.1.2,hk.1.1.2⟩)))⟩;have n1_ : Aside0 (Kd.R k45 45 w26 w.heap.size (fun _=>True) (.slice Ao24 y549.length co24) y549):=⟨(by rw [hw];exact (by (with_reducible repeat (first | apply Kd.R_alloc | apply Kd.R_drewN | apply Kd.R_drew));exact Kd.R_mono (Kd.R_far (p:=⟨gb548,2,none⟩) (Kd.R_types HO551.out BK548.out (by decide)) (fun _ hk=>hk.2) (.slice Ao24 y549.length co24)) (fun _ hk=>trivial)))⟩;have n2_ : Aside0 (w26.heap[gb548]? = some (.cells #[.int .i64 ((rd_T40 y543 x24_2).f0),.int .i64 ((rd_T40 y543 x24_2).f1),.slice Ao24 y549.length co24] 40 (0,0))):=⟨(by rw [hw];exact (by (with_reducible repeat (first | refine blk_drewN ?_ _ | refine blk_drew ?_ | refine blk_alloc ?_ _));refine blk_put (cs:=#[.int .i64 ((rd_T40 y543 x24_2).f0),.int .i64 ((rd_T40 y543 x24_2).f1),.slice A547_2 ((rd_T40 y543 x24_2).f2).length c547_2]) ?_ 2 _ rfl;(with_reducible repeat (first | refine blk_drewN ?_ _ | refine blk_drew ?_ | refine blk_alloc ?_ _));exact BK548.out))⟩;have n3_ : Aside0 (Below w.heap.size w w26):=⟨(by rw [hw];exact (hs1 HB GE548))⟩;clear hw;clear HO_6;clear HO551;clear BK548;clear HB;have HO_6:=n0_;have HO551:=n1_;have BK548:=n2_;have HB:=n3_;clear n0_ n1_ n2_ n3_;have hcz27_0 : w26.cell? ⟨gb548,0,none⟩ = some (.int .i64 ((rd_T40 y543 x24_2).f0)):=(zCl BK548.out 0).trans rfl;have hcz27_1 : w26.cell? ⟨gb548,1,none⟩ = some (.int .i64 ((rd_T40 y543 x24_2).f1)):=(zCl BK548.out 1).trans rfl;have hcz27_2 : w26.cell? ⟨gb548,2,none⟩ = some (.slice Ao24 y549.length co24):=(zCl BK548.out 2).trans rfl;have hfz27_0:=zFr BK548.out 0;have hfz27_1:=zFr BK548.out 1;have hfz27_2:=zFr BK548.out 2) | ((with_reducible refine gate_builtin (b:=.append) (xs:=#[.tmp 32,.tmp 34]) rfl ?_);at_builtin;refine Kd.S_append k40 (w0:=w) w.heap.size rfl (.tmp 32) (.tmp 34) 37 40 (.agg #[(.int .i64 0),(.int .i64 0),(.slice none 0 0)]) 40 rfl Try.underlying37 info40 rfl (by decide) (by omega) u6 x6_2 (⟨(rd_T40 y543 x24_2).f0,(rd_T40 y543 x24_2).f1,y549⟩ : S40) [.int .i64 ((rd_T40 y543 x24_2).f0),.int .i64 ((rd_T40 y543 x24_2).f1),.slice Ao24 y549.length co24] (fun k_=>k_ ≠ gb548) (fun k_=>some k_ = (.slice Ao24 y549.length co24 : Value).ownBlock) rfl rfl ?aP (fun k_ hk_=>((Kd.R_mono (ok':=fun k_=>((fun k_=>k_ ≠ gb548)) k_ ∧ some k_ ≠ (u6 : Value).ownBlock) (Kd.R_types (Kd.R_apart' (HO551.out) (Kd.S_typed HO_6.out) (by decide)) BK548.out (by decide)) (fun k_ hk=>⟨hk.2,hk.1.2⟩))).1 k_ hk_.symm) ?aF ?aO ?aB ?aS ?aL ?_;(case aP=>exact k40_mkM _ _ _ (⟨(rd_T40 y543 x24_2).f0,(rd_T40 y543 x24_2).f1,y549⟩ : S40) (Kd.R_mono (Kd.R_tight rfl (Kd.R_mono (ok':=fun k_=>((fun k_=>k_ ≠ gb548)) k_ ∧ some k_ ≠ (u6 : Value).ownBlock) (Kd.R_types (Kd.R_apart' (HO551.out) (Kd.S_typed HO_6.out) (by decide)) BK548.out (by decide)) (fun k_ hk=>⟨hk.2,hk.1.2⟩))) (fun _ h_=>h_)));(case aB=>exact (hs1 HB GE548));(case aF=>exact (fun k_ hk=>Kd.freshB (g:=gb548) (o:=.cells #[.int .i64 ((rd_T40 y543 x24_2).f0),.int .i64 ((rd_T40 y543 x24_2).f1),.slice Ao24 y549.length co24] 40 (0,0)) (bs BK548) k_ hk));(case aO=>exact (by (with_reducible repeat (first | apply Kd.S_alloc | apply Kd.S_drewN | apply Kd.S_drew));exact Kd.S_mono HO_6.out (fun k_ hk=>⟨hk.2,fun e_=>hk.1 e_⟩)));(case aS=>exact (below_size (hs1 HB GE548)));(case aL=>have:=LMc20.out;omega);intro v553 w28 ho hb hg hat;rw [← Ny552.out] at ho;have n0_:=zMk (blk_grown (g:=gb548) (o:=.cells #[.int .i64 ((rd_T40 y543 x24_2).f0),.int .i64 ((rd_T40 y543 x24_2).f1),.slice Ao24 y549.length co24] 40 (0,0)) (bs BK548) hg (Kd.S_away HO_6.out (fun _ hk=>hk.2)));have n1_:=zMk (hb);have n2_:=zMk (ho);clear BK548;clear HB;clear HO_6;clear HO551;have BK548:=n0_;have HB:=n1_;have HO554:=n2_;clear n0_ n1_ n2_;clear ho hb hg hat));go_roundg k2;case measure=>have:=HK1.out;have:=HK2.out;omega
            case rel=>exact ⟨(y552),(wrap64 (x24_2 + 1)),(by first | rfl | (simp;done) | (simp [*];done)),H',⟨by have:=HK1.out;have:=HK2.out;omega⟩,⟨by (with_reducible repeat (first | apply Kd.S_alloc | apply Kd.S_drewN | apply Kd.S_drew));exact Kd.S_mono HO554.out (fun _ hk=>trivial)⟩,⟨hs1 HB GE548⟩⟩
           rw [if_neg c20] at H;exact absurd H (by simp)
          rw [if_neg c19] at H;exact absurd H (by simp)
         rw [if_neg c18] at H;exact absurd H (by simp)
        rw [if_neg c17] at H;exact absurd H (by simp)
       rw [if_neg c16] at H;have c16b0 : decide (x24_2 < (y543.length : Int)) = false:=decide_eq_false c16;clear c16;obtain rfl:=Option.some.inj H
       go_wp2
       go_ret
       exact ⟨_,by first | rfl | (simp [errW_none,errW_some] <;> rfl) | (simp [*,errW_none,errW_some] <;> rfl),ss HO_6,hs HB⟩
    rw [if_neg c14] at H;exact absurd H (by simp)
   rw [if_neg c13] at H;exact absurd H (by simp)
end Go.Proofs.Ytodokejcmbjpbaa.PK
