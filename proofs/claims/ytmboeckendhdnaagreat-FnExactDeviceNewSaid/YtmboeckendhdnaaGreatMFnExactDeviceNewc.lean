/- FnExactDeviceNew: functions of the translation as Lean functions with what their calls come to, plain lemmas on them, and, at the end, the row. Parts of one proof, merged by a program of this session; each part's own sentence stands at its head. -/
import Derived.Below
import Derived.Shelf.Sort.Plain
import Derived.Shelf.Slices.In.SortNone2
import Derived.Sort.OwnSortedInts
import Derived.Test.YtmboeckendhdnaaGreatMFnExactDeviceNewb
/- Plain runs of functions: each is a plain Lean function, and keeps its contract. Written by a program of this session. -/
namespace Go.Proofs.YtmboeckendhdnaaGreat.M2
open Go Go.Proofs.YtmboeckendhdnaaGreat.PK
set_option linter.unusedVariables false
set_option linter.unusedSimpArgs false
set_option maxHeartbeats 4000000
/-! ### spec_l01In: function 19 -/
noncomputable def spec_l01In.sp : Nat → Option (Spec Ty) := fun r => none
noncomputable def spec_l01In.en : Option (Spec Ty) := none
noncomputable def spec_l01In.ctx (k : Nat) : Ctx Ty D := (fun _ _ _ _ => none)
noncomputable def spec_l01In.f (k : Nat) (a0 : Int) (a1 : Int) (a2 : Int) : Option (Bool) := (if a0 ≥ a1 then (some ((decide (a0 ≤ a2)))) else (some (false)))
noncomputable def spec_l01In.e (r : Bool) : Res Ty D := (.sc (.bool r), [], [])
noncomputable abbrev spec_l01In.g (rec : List Item → St Ty D → R) (k : Nat) := go1 Tryz.f19 (spec_l01In.ctx k) spec_l01In.sp 0 spec_l01In.en rec
set_option maxRecDepth 100000 in
theorem spec_l01In.te (rec : List Item → St Ty D → R) (k : Nat) (a0 : Int) (a1 : Int) (a2 : Int) : spec_l01In.g rec k [.code (body Tryz.f19)] (startSt [.sc (.int .i64 a0), .sc (.int .i64 a1), .sc (.int .i64 a2)] []) =
  bif decide (a0 ≥ a1) then some (spec_l01In.e ((decide (a0 ≤ a2)))) else some (spec_l01In.e (false)) := by kernel_rfl
set_option maxRecDepth 100000 in
theorem spec_l01In.oke (k : Nat) (a0 : Int) (a1 : Int) (a2 : Int) : goF Tryz.f19 spec_l01In.ctx spec_l01In.sp 0 spec_l01In.en (k + 1) [.code (body Tryz.f19)] (startSt [.sc (.int .i64 a0), .sc (.int .i64 a1), .sc (.int .i64 a2)] []) = (spec_l01In.f k a0 a1 a2).map spec_l01In.e := by
  rw [spec_l01In.f]; exact (spec_l01In.te _ k a0 a1 a2).trans (cd rfl rfl)
theorem spec_l01In.con (k : Nat) (a0 : Int) (a1 : Int) (a2 : Int) (r) (h : spec_l01In.f k a0 a1 a2 = some r) : Contract Tryz.prog kit 19 [.sc (.int .i64 a0), .sc (.int .i64 a1), .sc (.int .i64 a2)] [] (spec_l01In.e r).1 (spec_l01In.e r).2.1 (spec_l01In.e r).2.2 :=
  con_okG kitOk mix (fun k => CtxOk.nil) (spec_l01In.oke k a0 a1 a2) h (by kernel_rfl) (by kernel_rfl) (by kernel_rfl) rfl (by kernel_rfl) rfl rfl
noncomputable def spec_l01In.x (k : Nat) : X := fun ins bs κ => match ins, bs with
  | [.sc (.int .i64 a0), .sc (.int .i64 a1), .sc (.int .i64 a2)], [] => (spec_l01In.f k a0 a1 a2).bind fun r => κ (spec_l01In.e r).1 (spec_l01In.e r).2.1 (spec_l01In.e r).2.2
  | _, _ => none
theorem spec_l01In.xok (k : Nat) : XOk 19 (spec_l01In.x k) := by
  intro ins bs κ res h
  unfold spec_l01In.x at h
  split at h
  · obtain ⟨r, hr, h⟩ := Option.bind_eq_some_iff.1 h
    exact ⟨_, _, _, spec_l01In.con k _ _ _ r hr, h⟩
  · cases h

/-! ### spec_FlashNew: function 9 -/
noncomputable def spec_FlashNew.sp : Nat → Option (Spec Ty) := fun r => bif Nat.beq r 5 then some ⟨[(0, .keep), (2, .box [.own .t48]), (4, .box [.own .t48]), (5, .keep)], []⟩ else none
noncomputable def spec_FlashNew.en : Option (Spec Ty) := some ⟨[(2, .box [.own .t48]), (3, .keep)], []⟩
noncomputable def spec_FlashNew.s5 (x0 : Int) (x5 : Int) (h65 : List S48) (h67 : List S48) : St Ty D := ⟨(Env.put (Env.put (Env.put (Env.put E (some 0) (.sc (.int .i64 x0))) (some 2) (.pt 64 0 0)) (some 4) (.pt 66 0 0)) (some 5) (.sc (.int .i64 x5))), Heap.put H0 [(65, some (.rowb .t48 h65 0)), (64, some (.box [.sl 65 none])), (67, some (.rowb .t48 h67 0)), (66, some (.box [.sl 67 none]))], 1000⟩
noncomputable def spec_FlashNew.ctx (k : Nat) : Ctx Ty D := (cons 19 (spec_l01In.x k) (fun _ _ _ _ => none))
noncomputable def spec_FlashNew.c5 : Nat → Int → Int → (List S48) → (List S48) → Option ((List S48) × Bool)
  | 0, _, _, _, _ => none
  | k + 1, x0, x5, h65, h67 => (if x5 < x0 then (if h67.length + ([(S48.mk false 0 (List.replicate 4 z76))] : List S48).length ≤ 3518437208883 then (spec_FlashNew.c5 k x0 (w64 (x5 + 1)) h65 (h67 ++ ([(S48.mk false 0 (List.replicate 4 z76))] : List S48))) else none) else (some (h67, true)))
noncomputable def spec_FlashNew.f (k : Nat) (a0 : Int) : Option ((List S48) × Bool) := ((spec_l01In.f k a0 3 10).bind fun t1 => (if t1 = true then (spec_FlashNew.c5 k a0 0 ([] : List S48) ([] : List S48)) else (some (([] : List S48), false))))
noncomputable def spec_FlashNew.e (r : (List S48) × Bool) : Res Ty D := (.tu [.ag [.sl 0 none], .sc (.bool r.2)], [], [.rowb .t48 r.1 0])
noncomputable abbrev spec_FlashNew.g (rec : List Item → St Ty D → R) (k : Nat) := go1 Tryz.f9 (spec_FlashNew.ctx k) spec_FlashNew.sp 0 spec_FlashNew.en rec
set_option maxRecDepth 100000 in
theorem spec_FlashNew.t5 (rec : List Item → St Ty D → R) (k : Nat) (x0 : Int) (x5 : Int) (h65 : List S48) (h67 : List S48) : spec_FlashNew.g rec k (td Tryz.f9 5) (spec_FlashNew.s5 x0 x5 h65 h67) =
  bif decide (x5 < x0) then bif decide (h67.length + ([(S48.mk false 0 (List.replicate 4 z76))] : List S48).length ≤ 3518437208883) then rec (td Tryz.f9 5) (spec_FlashNew.s5 x0 (w64 (x5 + 1)) h65 (h67 ++ ([(S48.mk false 0 (List.replicate 4 z76))] : List S48))) else none else some (spec_FlashNew.e (h67, true)) := by kernel_rfl
set_option maxRecDepth 100000 in
theorem spec_FlashNew.te (rec : List Item → St Ty D → R) (k : Nat) (a0 : Int) : spec_FlashNew.g rec k [.code (body Tryz.f9)] (startSt [.sc (.int .i64 a0)] []) =
  (spec_l01In.f k a0 3 10).bind fun t1 => bif !t1 then some (spec_FlashNew.e (([] : List S48), false)) else rec (td Tryz.f9 5) (spec_FlashNew.s5 a0 0 ([] : List S48) ([] : List S48)) := by kernel_rfl
set_option maxRecDepth 100000 in
theorem spec_FlashNew.ok : ∀ k : Nat, (∀ (x0 : Int) (x5 : Int) (h65 : List S48) (h67 : List S48), goF Tryz.f9 spec_FlashNew.ctx spec_FlashNew.sp 0 spec_FlashNew.en k (td Tryz.f9 5) (spec_FlashNew.s5 x0 x5 h65 h67) = (spec_FlashNew.c5 k x0 x5 h65 h67).map spec_FlashNew.e)
  | 0 => fun _ _ _ _ => rfl
  | k + 1 => by
    have ih := spec_FlashNew.ok k
    have i5 := ih
    intro x0 x5 h65 h67; rw [spec_FlashNew.c5]; exact (spec_FlashNew.t5 _ k x0 x5 h65 h67).trans (cd (cd (i5 _ _ _ _) rfl) rfl)
set_option maxRecDepth 100000 in
theorem spec_FlashNew.oke (k : Nat) (a0 : Int) : goF Tryz.f9 spec_FlashNew.ctx spec_FlashNew.sp 0 spec_FlashNew.en (k + 1) [.code (body Tryz.f9)] (startSt [.sc (.int .i64 a0)] []) = (spec_FlashNew.f k a0).map spec_FlashNew.e := by
  have i5 := spec_FlashNew.ok k
  rw [spec_FlashNew.f]; exact (spec_FlashNew.te _ k a0).trans (bn (fun t1 => (nb rfl (i5 _ _ _ _))))
theorem spec_FlashNew.con (k : Nat) (a0 : Int) (r) (h : spec_FlashNew.f k a0 = some r) : Contract Tryz.prog kit 9 [.sc (.int .i64 a0)] [] (spec_FlashNew.e r).1 (spec_FlashNew.e r).2.1 (spec_FlashNew.e r).2.2 :=
  con_okG kitOk mix (fun k => (CtxOk.cons (spec_l01In.xok k) CtxOk.nil)) (spec_FlashNew.oke k a0) h (by kernel_rfl) (by kernel_rfl) (by kernel_rfl) rfl (by kernel_rfl) rfl rfl
noncomputable def spec_FlashNew.x (k : Nat) : X := fun ins bs κ => match ins, bs with
  | [.sc (.int .i64 a0)], [] => (spec_FlashNew.f k a0).bind fun r => κ (spec_FlashNew.e r).1 (spec_FlashNew.e r).2.1 (spec_FlashNew.e r).2.2
  | _, _ => none
theorem spec_FlashNew.xok (k : Nat) : XOk 9 (spec_FlashNew.x k) := by
  intro ins bs κ res h
  unfold spec_FlashNew.x at h
  split at h
  · obtain ⟨r, hr, h⟩ := Option.bind_eq_some_iff.1 h
    exact ⟨_, _, _, spec_FlashNew.con k _ r hr, h⟩
  · cases h

/-! ### spec_l05Leaf: function 46 -/
noncomputable def spec_l05Leaf.sp : Nat → Option (Spec Ty) := fun r => none
noncomputable def spec_l05Leaf.en : Option (Spec Ty) := none
noncomputable def spec_l05Leaf.ctx (k : Nat) : Ctx Ty D := (cons 19 (spec_l01In.x k) (fun _ _ _ _ => none))
noncomputable def spec_l05Leaf.f (k : Nat) (a0_0 : Int) (a0_1 : ByteArray) : Option (Bool) := (if a0_0 = 0 then (some ((seq a0_1 (⟨#[]⟩ : ByteArray)))) else (if a0_0 = 1 then ((spec_l01In.f k (a0_1.size : Int) 1 120).bind fun t1 => (some (t1))) else (if a0_0 = 2 then (some ((decide ((a0_1.size : Int) ≤ 120)))) else (some (false)))))
noncomputable def spec_l05Leaf.e (r : Bool) : Res Ty D := (.sc (.bool r), [], [])
noncomputable abbrev spec_l05Leaf.g (rec : List Item → St Ty D → R) (k : Nat) := go1 Tryz.f46 (spec_l05Leaf.ctx k) spec_l05Leaf.sp 0 spec_l05Leaf.en rec
set_option maxRecDepth 100000 in
theorem spec_l05Leaf.te (rec : List Item → St Ty D → R) (k : Nat) (a0_0 : Int) (a0_1 : ByteArray) : spec_l05Leaf.g rec k [.code (body Tryz.f46)] (startSt [.ag [.sc (.int .i64 a0_0), .sc (.string a0_1)]] []) =
  bif decide (a0_0 = 0) then some (spec_l05Leaf.e ((seq a0_1 (⟨#[]⟩ : ByteArray)))) else bif decide (a0_0 = 1) then (spec_l01In.f k (a0_1.size : Int) 1 120).bind fun t1 => some (spec_l05Leaf.e (t1)) else bif decide (a0_0 = 2) then some (spec_l05Leaf.e ((decide ((a0_1.size : Int) ≤ 120)))) else some (spec_l05Leaf.e (false)) := by kernel_rfl
set_option maxRecDepth 100000 in
theorem spec_l05Leaf.oke (k : Nat) (a0_0 : Int) (a0_1 : ByteArray) : goF Tryz.f46 spec_l05Leaf.ctx spec_l05Leaf.sp 0 spec_l05Leaf.en (k + 1) [.code (body Tryz.f46)] (startSt [.ag [.sc (.int .i64 a0_0), .sc (.string a0_1)]] []) = (spec_l05Leaf.f k a0_0 a0_1).map spec_l05Leaf.e := by
  rw [spec_l05Leaf.f]; exact (spec_l05Leaf.te _ k a0_0 a0_1).trans (cd rfl (cd (bn (fun t1 => rfl)) (cd rfl rfl)))
theorem spec_l05Leaf.con (k : Nat) (a0_0 : Int) (a0_1 : ByteArray) (r) (h : spec_l05Leaf.f k a0_0 a0_1 = some r) : Contract Tryz.prog kit 46 [.ag [.sc (.int .i64 a0_0), .sc (.string a0_1)]] [] (spec_l05Leaf.e r).1 (spec_l05Leaf.e r).2.1 (spec_l05Leaf.e r).2.2 :=
  con_okG kitOk mix (fun k => (CtxOk.cons (spec_l01In.xok k) CtxOk.nil)) (spec_l05Leaf.oke k a0_0 a0_1) h (by kernel_rfl) (by kernel_rfl) (by kernel_rfl) rfl (by kernel_rfl) rfl rfl
noncomputable def spec_l05Leaf.x (k : Nat) : X := fun ins bs κ => match ins, bs with
  | [.ag [.sc (.int .i64 a0_0), .sc (.string a0_1)]], [] => (spec_l05Leaf.f k a0_0 a0_1).bind fun r => κ (spec_l05Leaf.e r).1 (spec_l05Leaf.e r).2.1 (spec_l05Leaf.e r).2.2
  | _, _ => none
theorem spec_l05Leaf.xok (k : Nat) : XOk 46 (spec_l05Leaf.x k) := by
  intro ins bs κ res h
  unfold spec_l05Leaf.x at h
  split at h
  · obtain ⟨r, hr, h⟩ := Option.bind_eq_some_iff.1 h
    exact ⟨_, _, _, spec_l05Leaf.con k _ _ r hr, h⟩
  · cases h

/-! ### spec_FlashOk: function 20 -/
noncomputable def spec_FlashOk.sp : Nat → Option (Spec Ty) := fun r => bif Nat.beq r 2 then some ⟨[(1, .box [.keep]), (3, .keep)], []⟩ else bif Nat.beq r 8 then some ⟨[(1, .box [.keep]), (3, .keep), (4, .box [.keep, .keep, .keep]), (5, .keep), (23, .box [.keep, .keep, .keep]), (24, .keep), (25, .keep), (26, .keep)], []⟩ else none
noncomputable def spec_FlashOk.en : Option (Spec Ty) := none
noncomputable def spec_FlashOk.s2 (x3 : Int) (h64_0 : List S48) : St Ty D := ⟨(Env.put (Env.put E (some 1) (.pt 64 0 0)) (some 3) (.sc (.int .i64 x3))), Heap.put H0 [(64, some (.box [.row 0 .t48 h64_0]))], 1000⟩
noncomputable def spec_FlashOk.s8 (x3 : Int) (x5 : Int) (x24 : Int) (x25 : Bool) (x26 : Bool) (h64_0 : List S48) (h65_0 : Bool) (h65_1 : Int) (h65_2 : List S76) : St Ty D := ⟨(Env.put (Env.put (Env.put (Env.put (Env.put (Env.put (Env.put (Env.put E (some 1) (.pt 64 0 0)) (some 3) (.sc (.int .i64 x3))) (some 4) (.pt 65 0 0)) (some 5) (.sc (.int .i64 x5))) (some 23) (.pt 65 0 1)) (some 24) (.sc (.int .i64 x24))) (some 25) (.sc (.bool x25))) (some 26) (.sc (.bool x26))), Heap.put H0 [(64, some (.box [.row 0 .t48 h64_0])), (65, some (.box [.sc (.bool h65_0), .sc (.int .i64 h65_1), .row 0 .t76 h65_2]))], 1000⟩
noncomputable def spec_FlashOk.ctx (k : Nat) : Ctx Ty D := (cons 19 (spec_l01In.x k) (cons 46 (spec_l05Leaf.x k) (fun _ _ _ _ => none)))
mutual
noncomputable def spec_FlashOk.c2 : Nat → Int → (List S48) → Option (Bool)
  | 0, _, _ => none
  | k + 1, x3, h64_0 => (if x3 < (h64_0.length : Int) then (if 0 ≤ x3 then (if x3 < (h64_0.length : Int) then (if (((rd_T48 h64_0 x3).f2).length : Int) = 4 then ((spec_l01In.f k ((rd_T48 h64_0 x3).f1) 0 1000000000).bind fun t1 => (if t1 = true then (spec_FlashOk.c8 k x3 0 ((rd_T48 h64_0 x3).f1) t1 (!t1) h64_0 ((rd_T48 h64_0 x3).f0) ((rd_T48 h64_0 x3).f1) ((rd_T48 h64_0 x3).f2)) else (some (false)))) else (some (false))) else none) else none) else ((spec_l01In.f k (h64_0.length : Int) 3 10).bind fun t2 => (some (t2))))
noncomputable def spec_FlashOk.c8 : Nat → Int → Int → Int → Bool → Bool → (List S48) → Bool → Int → (List S76) → Option (Bool)
  | 0, _, _, _, _, _, _, _, _, _ => none
  | k + 1, x3, x5, x24, x25, x26, h64_0, h65_0, h65_1, h65_2 => (if x5 < (h65_2.length : Int) then (if 0 ≤ x5 then (if x5 < (h65_2.length : Int) then ((spec_l05Leaf.f k ((rd_T76 h65_2 x5).f0) ((rd_T76 h65_2 x5).f1)).bind fun t3 => (if t3 = true then (if x5 > 0 then (if 0 ≤ (w64 (x5 - 1)) then (if (w64 (x5 - 1)) < (h65_2.length : Int) then (if ((rd_T76 h65_2 (w64 (x5 - 1))).f0) = 0 then (if 0 ≤ x5 then (if x5 < (h65_2.length : Int) then (if ((rd_T76 h65_2 x5).f0) = 0 then (spec_FlashOk.c8 k x3 (w64 (x5 + 1)) x24 x25 x26 h64_0 h65_0 h65_1 h65_2) else (some (false))) else none) else none) else (spec_FlashOk.c8 k x3 (w64 (x5 + 1)) x24 x25 x26 h64_0 h65_0 h65_1 h65_2)) else none) else none) else (spec_FlashOk.c8 k x3 (w64 (x5 + 1)) x24 x25 x26 h64_0 h65_0 h65_1 h65_2)) else (some (false)))) else none) else none) else (spec_FlashOk.c2 k (w64 (x3 + 1)) h64_0))
end
noncomputable def spec_FlashOk.f (k : Nat) (a0_0 : List S48) : Option (Bool) := (spec_FlashOk.c2 k 0 a0_0)
noncomputable def spec_FlashOk.e (r : Bool) : Res Ty D := (.sc (.bool r), [], [])
noncomputable abbrev spec_FlashOk.g (rec : List Item → St Ty D → R) (k : Nat) := go1 Tryz.f20 (spec_FlashOk.ctx k) spec_FlashOk.sp 0 spec_FlashOk.en rec
set_option maxRecDepth 100000 in
theorem spec_FlashOk.t2 (rec : List Item → St Ty D → R) (k : Nat) (x3 : Int) (h64_0 : List S48) : spec_FlashOk.g rec k (td Tryz.f20 2) (spec_FlashOk.s2 x3 h64_0) =
  bif decide (x3 < (h64_0.length : Int)) then bif decide (0 ≤ x3) then bif decide (x3 < (h64_0.length : Int)) then bif !decide ((((rd_T48 h64_0 x3).f2).length : Int) = 4) then some (spec_FlashOk.e (false)) else (spec_l01In.f k ((rd_T48 h64_0 x3).f1) 0 1000000000).bind fun t1 => bif !t1 then some (spec_FlashOk.e (false)) else rec (td Tryz.f20 8) (spec_FlashOk.s8 x3 0 ((rd_T48 h64_0 x3).f1) t1 (!t1) h64_0 ((rd_T48 h64_0 x3).f0) ((rd_T48 h64_0 x3).f1) ((rd_T48 h64_0 x3).f2)) else none else none else (spec_l01In.f k (h64_0.length : Int) 3 10).bind fun t2 => some (spec_FlashOk.e (t2)) := by kernel_rfl
set_option maxRecDepth 100000 in
theorem spec_FlashOk.t8 (rec : List Item → St Ty D → R) (k : Nat) (x3 : Int) (x5 : Int) (x24 : Int) (x25 : Bool) (x26 : Bool) (h64_0 : List S48) (h65_0 : Bool) (h65_1 : Int) (h65_2 : List S76) : spec_FlashOk.g rec k (td Tryz.f20 8) (spec_FlashOk.s8 x3 x5 x24 x25 x26 h64_0 h65_0 h65_1 h65_2) =
  bif decide (x5 < (h65_2.length : Int)) then bif decide (0 ≤ x5) then bif decide (x5 < (h65_2.length : Int)) then (spec_l05Leaf.f k ((rd_T76 h65_2 x5).f0) ((rd_T76 h65_2 x5).f1)).bind fun t3 => bif !t3 then some (spec_FlashOk.e (false)) else bif decide (x5 > 0) then bif decide (0 ≤ (w64 (x5 - 1))) then bif decide ((w64 (x5 - 1)) < (h65_2.length : Int)) then bif decide (((rd_T76 h65_2 (w64 (x5 - 1))).f0) = 0) then bif decide (0 ≤ x5) then bif decide (x5 < (h65_2.length : Int)) then bif !decide (((rd_T76 h65_2 x5).f0) = 0) then some (spec_FlashOk.e (false)) else rec (td Tryz.f20 8) (spec_FlashOk.s8 x3 (w64 (x5 + 1)) x24 x25 x26 h64_0 h65_0 h65_1 h65_2) else none else none else rec (td Tryz.f20 8) (spec_FlashOk.s8 x3 (w64 (x5 + 1)) x24 x25 x26 h64_0 h65_0 h65_1 h65_2) else none else none else rec (td Tryz.f20 8) (spec_FlashOk.s8 x3 (w64 (x5 + 1)) x24 x25 x26 h64_0 h65_0 h65_1 h65_2) else none else none else rec (td Tryz.f20 2) (spec_FlashOk.s2 (w64 (x3 + 1)) h64_0) := by kernel_rfl
set_option maxRecDepth 100000 in
theorem spec_FlashOk.te (rec : List Item → St Ty D → R) (k : Nat) (a0_0 : List S48) : spec_FlashOk.g rec k [.code (body Tryz.f20)] (startSt [.ag [.row 0 .t48 a0_0]] []) =
  rec (td Tryz.f20 2) (spec_FlashOk.s2 0 a0_0) := by kernel_rfl
set_option maxRecDepth 100000 in
theorem spec_FlashOk.ok : ∀ k : Nat, (∀ (x3 : Int) (h64_0 : List S48), goF Tryz.f20 spec_FlashOk.ctx spec_FlashOk.sp 0 spec_FlashOk.en k (td Tryz.f20 2) (spec_FlashOk.s2 x3 h64_0) = (spec_FlashOk.c2 k x3 h64_0).map spec_FlashOk.e) ∧ (∀ (x3 : Int) (x5 : Int) (x24 : Int) (x25 : Bool) (x26 : Bool) (h64_0 : List S48) (h65_0 : Bool) (h65_1 : Int) (h65_2 : List S76), goF Tryz.f20 spec_FlashOk.ctx spec_FlashOk.sp 0 spec_FlashOk.en k (td Tryz.f20 8) (spec_FlashOk.s8 x3 x5 x24 x25 x26 h64_0 h65_0 h65_1 h65_2) = (spec_FlashOk.c8 k x3 x5 x24 x25 x26 h64_0 h65_0 h65_1 h65_2).map spec_FlashOk.e)
  | 0 => ⟨fun _ _ => rfl, fun _ _ _ _ _ _ _ _ _ => rfl⟩
  | k + 1 => by
    have ih := spec_FlashOk.ok k
    obtain ⟨i2, i8⟩ := ih
    refine ⟨?_, ?_⟩
    · intro x3 h64_0; rw [spec_FlashOk.c2]; exact (spec_FlashOk.t2 _ k x3 h64_0).trans (cd (cd (cd (nd rfl (bn (fun t1 => (nb rfl (i8 _ _ _ _ _ _ _ _ _))))) rfl) rfl) (bn (fun t2 => rfl)))
    · intro x3 x5 x24 x25 x26 h64_0 h65_0 h65_1 h65_2; rw [spec_FlashOk.c8]; exact (spec_FlashOk.t8 _ k x3 x5 x24 x25 x26 h64_0 h65_0 h65_1 h65_2).trans (cd (cd (cd (bn (fun t3 => (nb rfl (cd (cd (cd (cd (cd (cd (nd rfl (i8 _ _ _ _ _ _ _ _ _)) rfl) rfl) (i8 _ _ _ _ _ _ _ _ _)) rfl) rfl) (i8 _ _ _ _ _ _ _ _ _))))) rfl) rfl) (i2 _ _))
set_option maxRecDepth 100000 in
theorem spec_FlashOk.oke (k : Nat) (a0_0 : List S48) : goF Tryz.f20 spec_FlashOk.ctx spec_FlashOk.sp 0 spec_FlashOk.en (k + 1) [.code (body Tryz.f20)] (startSt [.ag [.row 0 .t48 a0_0]] []) = (spec_FlashOk.f k a0_0).map spec_FlashOk.e := by
  obtain ⟨i2, i8⟩ := spec_FlashOk.ok k
  rw [spec_FlashOk.f]; exact (spec_FlashOk.te _ k a0_0).trans (i2 _ _)
theorem spec_FlashOk.con (k : Nat) (a0_0 : List S48) (r) (h : spec_FlashOk.f k a0_0 = some r) : Contract Tryz.prog kit 20 [.ag [.row 0 .t48 a0_0]] [] (spec_FlashOk.e r).1 (spec_FlashOk.e r).2.1 (spec_FlashOk.e r).2.2 :=
  con_okG kitOk mix (fun k => (CtxOk.cons (spec_l01In.xok k) (CtxOk.cons (spec_l05Leaf.xok k) CtxOk.nil))) (spec_FlashOk.oke k a0_0) h (by kernel_rfl) (by kernel_rfl) (by kernel_rfl) rfl (by kernel_rfl) rfl rfl
noncomputable def spec_FlashOk.x (k : Nat) : X := fun ins bs κ => match ins, bs with
  | [.ag [.row 0 .t48 a0_0]], [] => (spec_FlashOk.f k a0_0).bind fun r => κ (spec_FlashOk.e r).1 (spec_FlashOk.e r).2.1 (spec_FlashOk.e r).2.2
  | _, _ => none
theorem spec_FlashOk.xok (k : Nat) : XOk 20 (spec_FlashOk.x k) := by
  intro ins bs κ res h
  unfold spec_FlashOk.x at h
  split at h
  · obtain ⟨r, hr, h⟩ := Option.bind_eq_some_iff.1 h
    exact ⟨_, _, _, spec_FlashOk.con k _ r hr, h⟩
  · cases h

/-! ### spec_ReadLeaf: function 47 -/
noncomputable def spec_ReadLeaf.sp : Nat → Option (Spec Ty) := fun r => none
noncomputable def spec_ReadLeaf.en : Option (Spec Ty) := none
noncomputable def spec_ReadLeaf.ctx (k : Nat) : Ctx Ty D := (cons 19 (spec_l01In.x k) (fun _ _ _ _ => none))
noncomputable def spec_ReadLeaf.f (k : Nat) (a0_0 : List S48) (a1 : Int) (a2 : Int) : Option (ByteArray × Bool) := ((spec_l01In.f k a1 0 (w64 ((a0_0.length : Int) - 1))).bind fun t1 => (if t1 = true then (if 0 ≤ a1 then (if a1 < (a0_0.length : Int) then ((spec_l01In.f k a2 0 (w64 ((((rd_T48 a0_0 a1).f2).length : Int) - 1))).bind fun t2 => (if t2 = true then (if 0 ≤ a1 then (if a1 < (a0_0.length : Int) then (if 0 ≤ a2 then (if a2 < (((rd_T48 a0_0 a1).f2).length : Int) then (if ((rd_T76 ((rd_T48 a0_0 a1).f2) a2).f0) = 1 then (if 0 ≤ a1 then (if a1 < (a0_0.length : Int) then (if 0 ≤ a2 then (if a2 < (((rd_T48 a0_0 a1).f2).length : Int) then (some ((rd_T76 ((rd_T48 a0_0 a1).f2) a2).f1, true)) else none) else none) else none) else none) else (some ((⟨#[]⟩ : ByteArray), false))) else none) else none) else none) else none) else (some ((⟨#[]⟩ : ByteArray), false)))) else none) else none) else (some ((⟨#[]⟩ : ByteArray), false))))
noncomputable def spec_ReadLeaf.e (r : ByteArray × Bool) : Res Ty D := (.tu [.sc (.string r.1), .sc (.bool r.2)], [], [])
noncomputable abbrev spec_ReadLeaf.g (rec : List Item → St Ty D → R) (k : Nat) := go1 Tryz.f47 (spec_ReadLeaf.ctx k) spec_ReadLeaf.sp 0 spec_ReadLeaf.en rec
set_option maxRecDepth 100000 in
theorem spec_ReadLeaf.te (rec : List Item → St Ty D → R) (k : Nat) (a0_0 : List S48) (a1 : Int) (a2 : Int) : spec_ReadLeaf.g rec k [.code (body Tryz.f47)] (startSt [.ag [.row 0 .t48 a0_0], .sc (.int .i64 a1), .sc (.int .i64 a2)] []) =
  (spec_l01In.f k a1 0 (w64 ((a0_0.length : Int) - 1))).bind fun t1 => bif !t1 then some (spec_ReadLeaf.e ((⟨#[]⟩ : ByteArray), false)) else bif decide (0 ≤ a1) then bif decide (a1 < (a0_0.length : Int)) then (spec_l01In.f k a2 0 (w64 ((((rd_T48 a0_0 a1).f2).length : Int) - 1))).bind fun t2 => bif !t2 then some (spec_ReadLeaf.e ((⟨#[]⟩ : ByteArray), false)) else bif decide (0 ≤ a1) then bif decide (a1 < (a0_0.length : Int)) then bif decide (0 ≤ a2) then bif decide (a2 < (((rd_T48 a0_0 a1).f2).length : Int)) then bif !decide (((rd_T76 ((rd_T48 a0_0 a1).f2) a2).f0) = 1) then some (spec_ReadLeaf.e ((⟨#[]⟩ : ByteArray), false)) else bif decide (0 ≤ a1) then bif decide (a1 < (a0_0.length : Int)) then bif decide (0 ≤ a2) then bif decide (a2 < (((rd_T48 a0_0 a1).f2).length : Int)) then some (spec_ReadLeaf.e ((rd_T76 ((rd_T48 a0_0 a1).f2) a2).f1, true)) else none else none else none else none else none else none else none else none else none else none := by kernel_rfl
set_option maxRecDepth 100000 in
theorem spec_ReadLeaf.oke (k : Nat) (a0_0 : List S48) (a1 : Int) (a2 : Int) : goF Tryz.f47 spec_ReadLeaf.ctx spec_ReadLeaf.sp 0 spec_ReadLeaf.en (k + 1) [.code (body Tryz.f47)] (startSt [.ag [.row 0 .t48 a0_0], .sc (.int .i64 a1), .sc (.int .i64 a2)] []) = (spec_ReadLeaf.f k a0_0 a1 a2).map spec_ReadLeaf.e := by
  rw [spec_ReadLeaf.f]; exact (spec_ReadLeaf.te _ k a0_0 a1 a2).trans (bn (fun t1 => (nb rfl (cd (cd (bn (fun t2 => (nb rfl (cd (cd (cd (cd (nd rfl (cd (cd (cd (cd rfl rfl) rfl) rfl) rfl)) rfl) rfl) rfl) rfl)))) rfl) rfl))))
theorem spec_ReadLeaf.con (k : Nat) (a0_0 : List S48) (a1 : Int) (a2 : Int) (r) (h : spec_ReadLeaf.f k a0_0 a1 a2 = some r) : Contract Tryz.prog kit 47 [.ag [.row 0 .t48 a0_0], .sc (.int .i64 a1), .sc (.int .i64 a2)] [] (spec_ReadLeaf.e r).1 (spec_ReadLeaf.e r).2.1 (spec_ReadLeaf.e r).2.2 :=
  con_okG kitOk mix (fun k => (CtxOk.cons (spec_l01In.xok k) CtxOk.nil)) (spec_ReadLeaf.oke k a0_0 a1 a2) h (by kernel_rfl) (by kernel_rfl) (by kernel_rfl) rfl (by kernel_rfl) rfl rfl
noncomputable def spec_ReadLeaf.x (k : Nat) : X := fun ins bs κ => match ins, bs with
  | [.ag [.row 0 .t48 a0_0], .sc (.int .i64 a1), .sc (.int .i64 a2)], [] => (spec_ReadLeaf.f k a0_0 a1 a2).bind fun r => κ (spec_ReadLeaf.e r).1 (spec_ReadLeaf.e r).2.1 (spec_ReadLeaf.e r).2.2
  | _, _ => none
theorem spec_ReadLeaf.xok (k : Nat) : XOk 47 (spec_ReadLeaf.x k) := by
  intro ins bs κ res h
  unfold spec_ReadLeaf.x at h
  split at h
  · obtain ⟨r, hr, h⟩ := Option.bind_eq_some_iff.1 h
    exact ⟨_, _, _, spec_ReadLeaf.con k _ _ _ r hr, h⟩
  · cases h

/-! ### spec_Unsealed: function 69 -/
noncomputable def spec_Unsealed.sp : Nat → Option (Spec Ty) := fun r => none
noncomputable def spec_Unsealed.en : Option (Spec Ty) := none
noncomputable def spec_Unsealed.ctx (k : Nat) : Ctx Ty D := (fun _ _ _ _ => none)
noncomputable def spec_Unsealed.f (k : Nat) (a0 : ByteArray) : Option (ByteArray × Bool) := (if (w64 ((a0.size : Int) - 4)) < 0 then (some ((⟨#[]⟩ : ByteArray), false)) else (if (w64 ((a0.size : Int) - 4)) > 20000 then (some ((⟨#[]⟩ : ByteArray), false)) else (if 0 ≤ (w64 ((a0.size : Int) - 4)) then (if (w64 ((a0.size : Int) - 4)) ≤ (a0.size : Int) then (if 0 ≤ (w64 ((a0.size : Int) - 4)) then (if (w64 ((a0.size : Int) - 4)) ≤ (a0.size : Int) then none else none) else none) else none) else none)))
noncomputable def spec_Unsealed.e (r : ByteArray × Bool) : Res Ty D := (.tu [.sc (.string r.1), .sc (.bool r.2)], [], [])
noncomputable abbrev spec_Unsealed.g (rec : List Item → St Ty D → R) (k : Nat) := go1 Tryz.f69 (spec_Unsealed.ctx k) spec_Unsealed.sp 0 spec_Unsealed.en rec
set_option maxRecDepth 100000 in
theorem spec_Unsealed.te (rec : List Item → St Ty D → R) (k : Nat) (a0 : ByteArray) : spec_Unsealed.g rec k [.code (body Tryz.f69)] (startSt [.sc (.string a0)] []) =
  bif decide ((w64 ((a0.size : Int) - 4)) < 0) then some (spec_Unsealed.e ((⟨#[]⟩ : ByteArray), false)) else bif decide ((w64 ((a0.size : Int) - 4)) > 20000) then some (spec_Unsealed.e ((⟨#[]⟩ : ByteArray), false)) else bif decide (0 ≤ (w64 ((a0.size : Int) - 4))) then bif decide ((w64 ((a0.size : Int) - 4)) ≤ (a0.size : Int)) then bif decide (0 ≤ (w64 ((a0.size : Int) - 4))) then bif decide ((w64 ((a0.size : Int) - 4)) ≤ (a0.size : Int)) then none else none else none else none else none := by kernel_rfl
set_option maxRecDepth 100000 in
theorem spec_Unsealed.oke (k : Nat) (a0 : ByteArray) : goF Tryz.f69 spec_Unsealed.ctx spec_Unsealed.sp 0 spec_Unsealed.en (k + 1) [.code (body Tryz.f69)] (startSt [.sc (.string a0)] []) = (spec_Unsealed.f k a0).map spec_Unsealed.e := by
  rw [spec_Unsealed.f]; exact (spec_Unsealed.te _ k a0).trans (cd rfl (cd rfl (cd (cd (cd (cd rfl rfl) rfl) rfl) rfl)))
theorem spec_Unsealed.con (k : Nat) (a0 : ByteArray) (r) (h : spec_Unsealed.f k a0 = some r) : Contract Tryz.prog kit 69 [.sc (.string a0)] [] (spec_Unsealed.e r).1 (spec_Unsealed.e r).2.1 (spec_Unsealed.e r).2.2 :=
  con_okG kitOk mix (fun k => CtxOk.nil) (spec_Unsealed.oke k a0) h (by kernel_rfl) (by kernel_rfl) (by kernel_rfl) rfl (by kernel_rfl) rfl rfl
noncomputable def spec_Unsealed.x (k : Nat) : X := fun ins bs κ => match ins, bs with
  | [.sc (.string a0)], [] => (spec_Unsealed.f k a0).bind fun r => κ (spec_Unsealed.e r).1 (spec_Unsealed.e r).2.1 (spec_Unsealed.e r).2.2
  | _, _ => none
theorem spec_Unsealed.xok (k : Nat) : XOk 69 (spec_Unsealed.x k) := by
  intro ins bs κ res h
  unfold spec_Unsealed.x at h
  split at h
  · obtain ⟨r, hr, h⟩ := Option.bind_eq_some_iff.1 h
    exact ⟨_, _, _, spec_Unsealed.con k _ r hr, h⟩
  · cases h

/-! ### spec_ReadVar: function 102 -/
noncomputable def spec_ReadVar.sp : Nat → Option (Spec Ty) := fun r => bif Nat.beq r 6 then some ⟨[(0, .keep), (1, .keep), (7, .keep), (8, .keep), (9, .keep)], []⟩ else none
noncomputable def spec_ReadVar.en : Option (Spec Ty) := none
noncomputable def spec_ReadVar.s6 (x0 : ByteArray) (x1 : Int) (x7 : Int) (x8 : Int) (x9 : Int) : St Ty D := ⟨(Env.put (Env.put (Env.put (Env.put (Env.put E (some 0) (.sc (.string x0))) (some 1) (.sc (.int .i64 x1))) (some 7) (.sc (.int .i64 x7))) (some 8) (.sc (.int .i64 x8))) (some 9) (.sc (.int .i64 x9))), H0, 1000⟩
noncomputable def spec_ReadVar.ctx (k : Nat) : Ctx Ty D := (cons 19 (spec_l01In.x k) (fun _ _ _ _ => none))
noncomputable def spec_ReadVar.c6 : Nat → ByteArray → Int → Int → Int → Int → Option (Int × Int × Bool)
  | 0, _, _, _, _, _ => none
  | k + 1, x0, x1, x7, x8, x9 => (if x9 < (x0.size : Int) then (if x9 < (w64 (x1 + 5)) then (if 0 ≤ x9 then (if x9 < (x0.size : Int) then (if 0 ≤ x9 then (if x9 < (x0.size : Int) then (if (bt x0 x9) < 128 then (if (w64 (x7 + (w64 ((Int.tmod (w64 ((bt x0 x9))) 128) * x8)))) > 1000000000 then (some (0, 0, false)) else none) else (spec_ReadVar.c6 k x0 x1 (w64 (x7 + (w64 ((Int.tmod (w64 ((bt x0 x9))) 128) * x8)))) (w64 (x8 * 128)) (w64 (x9 + 1)))) else none) else none) else none) else none) else (some (0, 0, false))) else (some (0, 0, false)))
noncomputable def spec_ReadVar.f (k : Nat) (a0 : ByteArray) (a1 : Int) : Option (Int × Int × Bool) := ((spec_l01In.f k a1 0 (a0.size : Int)).bind fun t1 => (if t1 = true then (spec_ReadVar.c6 k a0 a1 0 1 a1) else (some (0, 0, false))))
noncomputable def spec_ReadVar.e (r : Int × Int × Bool) : Res Ty D := (.tu [.sc (.int .i64 r.1), .sc (.int .i64 r.2.1), .sc (.bool r.2.2)], [], [])
noncomputable abbrev spec_ReadVar.g (rec : List Item → St Ty D → R) (k : Nat) := go1 Tryz.f102 (spec_ReadVar.ctx k) spec_ReadVar.sp 0 spec_ReadVar.en rec
set_option maxRecDepth 100000 in
theorem spec_ReadVar.t6 (rec : List Item → St Ty D → R) (k : Nat) (x0 : ByteArray) (x1 : Int) (x7 : Int) (x8 : Int) (x9 : Int) : spec_ReadVar.g rec k (td Tryz.f102 6) (spec_ReadVar.s6 x0 x1 x7 x8 x9) =
  bif decide (x9 < (x0.size : Int)) then bif decide (x9 < (w64 (x1 + 5))) then bif decide (0 ≤ x9) then bif decide (x9 < (x0.size : Int)) then bif decide (0 ≤ x9) then bif decide (x9 < (x0.size : Int)) then bif decide ((bt x0 x9) < 128) then bif decide ((w64 (x7 + (w64 ((Int.tmod (w64 ((bt x0 x9))) 128) * x8)))) > 1000000000) then some (spec_ReadVar.e (0, 0, false)) else none else rec (td Tryz.f102 6) (spec_ReadVar.s6 x0 x1 (w64 (x7 + (w64 ((Int.tmod (w64 ((bt x0 x9))) 128) * x8)))) (w64 (x8 * 128)) (w64 (x9 + 1))) else none else none else none else none else some (spec_ReadVar.e (0, 0, false)) else some (spec_ReadVar.e (0, 0, false)) := by kernel_rfl
set_option maxRecDepth 100000 in
theorem spec_ReadVar.te (rec : List Item → St Ty D → R) (k : Nat) (a0 : ByteArray) (a1 : Int) : spec_ReadVar.g rec k [.code (body Tryz.f102)] (startSt [.sc (.string a0), .sc (.int .i64 a1)] []) =
  (spec_l01In.f k a1 0 (a0.size : Int)).bind fun t1 => bif !t1 then some (spec_ReadVar.e (0, 0, false)) else rec (td Tryz.f102 6) (spec_ReadVar.s6 a0 a1 0 1 a1) := by kernel_rfl
set_option maxRecDepth 100000 in
theorem spec_ReadVar.ok : ∀ k : Nat, (∀ (x0 : ByteArray) (x1 : Int) (x7 : Int) (x8 : Int) (x9 : Int), goF Tryz.f102 spec_ReadVar.ctx spec_ReadVar.sp 0 spec_ReadVar.en k (td Tryz.f102 6) (spec_ReadVar.s6 x0 x1 x7 x8 x9) = (spec_ReadVar.c6 k x0 x1 x7 x8 x9).map spec_ReadVar.e)
  | 0 => fun _ _ _ _ _ => rfl
  | k + 1 => by
    have ih := spec_ReadVar.ok k
    have i6 := ih
    intro x0 x1 x7 x8 x9; rw [spec_ReadVar.c6]; exact (spec_ReadVar.t6 _ k x0 x1 x7 x8 x9).trans (cd (cd (cd (cd (cd (cd (cd (cd rfl rfl) (i6 _ _ _ _ _)) rfl) rfl) rfl) rfl) rfl) rfl)
set_option maxRecDepth 100000 in
theorem spec_ReadVar.oke (k : Nat) (a0 : ByteArray) (a1 : Int) : goF Tryz.f102 spec_ReadVar.ctx spec_ReadVar.sp 0 spec_ReadVar.en (k + 1) [.code (body Tryz.f102)] (startSt [.sc (.string a0), .sc (.int .i64 a1)] []) = (spec_ReadVar.f k a0 a1).map spec_ReadVar.e := by
  have i6 := spec_ReadVar.ok k
  rw [spec_ReadVar.f]; exact (spec_ReadVar.te _ k a0 a1).trans (bn (fun t1 => (nb rfl (i6 _ _ _ _ _))))
theorem spec_ReadVar.con (k : Nat) (a0 : ByteArray) (a1 : Int) (r) (h : spec_ReadVar.f k a0 a1 = some r) : Contract Tryz.prog kit 102 [.sc (.string a0), .sc (.int .i64 a1)] [] (spec_ReadVar.e r).1 (spec_ReadVar.e r).2.1 (spec_ReadVar.e r).2.2 :=
  con_okG kitOk mix (fun k => (CtxOk.cons (spec_l01In.xok k) CtxOk.nil)) (spec_ReadVar.oke k a0 a1) h (by kernel_rfl) (by kernel_rfl) (by kernel_rfl) rfl (by kernel_rfl) rfl rfl
noncomputable def spec_ReadVar.x (k : Nat) : X := fun ins bs κ => match ins, bs with
  | [.sc (.string a0), .sc (.int .i64 a1)], [] => (spec_ReadVar.f k a0 a1).bind fun r => κ (spec_ReadVar.e r).1 (spec_ReadVar.e r).2.1 (spec_ReadVar.e r).2.2
  | _, _ => none
theorem spec_ReadVar.xok (k : Nat) : XOk 102 (spec_ReadVar.x k) := by
  intro ins bs κ res h
  unfold spec_ReadVar.x at h
  split at h
  · obtain ⟨r, hr, h⟩ := Option.bind_eq_some_iff.1 h
    exact ⟨_, _, _, spec_ReadVar.con k _ _ r hr, h⟩
  · cases h

/-! ### spec_l06Var: function 70 -/
noncomputable def spec_l06Var.sp : Nat → Option (Spec Ty) := fun r => none
noncomputable def spec_l06Var.en : Option (Spec Ty) := none
noncomputable def spec_l06Var.ctx (k : Nat) : Ctx Ty D := (cons 102 (spec_ReadVar.x k) (fun _ _ _ _ => none))
noncomputable def spec_l06Var.f (k : Nat) (a0_0 : ByteArray) (a0_1 : Int) (a0_2 : Bool) : Option (Int × ByteArray × Int × Bool) := ((spec_ReadVar.f k a0_0 a0_1).bind fun t1 => (if a0_2 = true then (some (0, a0_0, a0_1, true)) else (if t1.2.2 = true then (some (t1.1, a0_0, t1.2.1, a0_2)) else (some (0, a0_0, a0_1, true)))))
noncomputable def spec_l06Var.e (r : Int × ByteArray × Int × Bool) : Res Ty D := (.sc (.int .i64 r.1), [some (.box [.sc (.string r.2.1), .sc (.int .i64 r.2.2.1), .sc (.bool r.2.2.2)])], [])
noncomputable abbrev spec_l06Var.g (rec : List Item → St Ty D → R) (k : Nat) := go1 Tryz.f70 (spec_l06Var.ctx k) spec_l06Var.sp 1 spec_l06Var.en rec
set_option maxRecDepth 100000 in
theorem spec_l06Var.te (rec : List Item → St Ty D → R) (k : Nat) (a0_0 : ByteArray) (a0_1 : Int) (a0_2 : Bool) : spec_l06Var.g rec k [.code (body Tryz.f70)] (startSt [.pt 0 0 0] [.box [.sc (.string a0_0), .sc (.int .i64 a0_1), .sc (.bool a0_2)]]) =
  (spec_ReadVar.f k a0_0 a0_1).bind fun t1 => bif a0_2 then some (spec_l06Var.e (0, a0_0, a0_1, true)) else bif !t1.2.2 then some (spec_l06Var.e (0, a0_0, a0_1, true)) else some (spec_l06Var.e (t1.1, a0_0, t1.2.1, a0_2)) := by kernel_rfl
set_option maxRecDepth 100000 in
theorem spec_l06Var.oke (k : Nat) (a0_0 : ByteArray) (a0_1 : Int) (a0_2 : Bool) : goF Tryz.f70 spec_l06Var.ctx spec_l06Var.sp 1 spec_l06Var.en (k + 1) [.code (body Tryz.f70)] (startSt [.pt 0 0 0] [.box [.sc (.string a0_0), .sc (.int .i64 a0_1), .sc (.bool a0_2)]]) = (spec_l06Var.f k a0_0 a0_1 a0_2).map spec_l06Var.e := by
  rw [spec_l06Var.f]; exact (spec_l06Var.te _ k a0_0 a0_1 a0_2).trans (bn (fun t1 => (cb rfl (nb rfl rfl))))
theorem spec_l06Var.con (k : Nat) (a0_0 : ByteArray) (a0_1 : Int) (a0_2 : Bool) (r) (h : spec_l06Var.f k a0_0 a0_1 a0_2 = some r) : Contract Tryz.prog kit 70 [.pt 0 0 0] [.box [.sc (.string a0_0), .sc (.int .i64 a0_1), .sc (.bool a0_2)]] (spec_l06Var.e r).1 (spec_l06Var.e r).2.1 (spec_l06Var.e r).2.2 :=
  con_okG kitOk mix (fun k => (CtxOk.cons (spec_ReadVar.xok k) CtxOk.nil)) (spec_l06Var.oke k a0_0 a0_1 a0_2) h (by kernel_rfl) (by kernel_rfl) (by kernel_rfl) rfl (by kernel_rfl) rfl rfl
noncomputable def spec_l06Var.x (k : Nat) : X := fun ins bs κ => match ins, bs with
  | [.pt 0 0 0], [.box [.sc (.string a0_0), .sc (.int .i64 a0_1), .sc (.bool a0_2)]] => (spec_l06Var.f k a0_0 a0_1 a0_2).bind fun r => κ (spec_l06Var.e r).1 (spec_l06Var.e r).2.1 (spec_l06Var.e r).2.2
  | _, _ => none
theorem spec_l06Var.xok (k : Nat) : XOk 70 (spec_l06Var.x k) := by
  intro ins bs κ res h
  unfold spec_l06Var.x at h
  split at h
  · obtain ⟨r, hr, h⟩ := Option.bind_eq_some_iff.1 h
    exact ⟨_, _, _, spec_l06Var.con k _ _ _ r hr, h⟩
  · cases h

/-! ### spec_ReadPage: function 48 -/
noncomputable def spec_ReadPage.sp : Nat → Option (Spec Ty) := fun r => none
noncomputable def spec_ReadPage.en : Option (Spec Ty) := none
noncomputable def spec_ReadPage.ctx (k : Nat) : Ctx Ty D := (cons 69 (spec_Unsealed.x k) (cons 70 (spec_l06Var.x k) (fun _ _ _ _ => none)))
noncomputable def spec_ReadPage.f (k : Nat) (a0 : ByteArray) : Option (Int × Int × Int × Int × Int × ByteArray × Bool) := ((spec_Unsealed.f k a0).bind fun t1 => (if t1.2 = true then ((spec_l06Var.f k t1.1 1 (decide ((t1.1.size : Int) < 1))).bind fun t6 => ((spec_l06Var.f k t6.2.1 t6.2.2.1 t6.2.2.2).bind fun t7 => ((spec_l06Var.f k t7.2.1 t7.2.2.1 t7.2.2.2).bind fun t8 => ((spec_l06Var.f k t8.2.1 t8.2.2.1 t8.2.2.2).bind fun t9 => (if t9.2.2.2 = true then (some (0, 0, 0, 0, 0, (⟨#[]⟩ : ByteArray), false)) else (if 0 < (t1.1.size : Int) then (if 0 ≤ t9.2.2.1 then (if t9.2.2.1 ≤ (t1.1.size : Int) then none else none) else none) else none)))))) else ((spec_l06Var.f k t1.1 1 true).bind fun t2 => ((spec_l06Var.f k t2.2.1 t2.2.2.1 t2.2.2.2).bind fun t3 => ((spec_l06Var.f k t3.2.1 t3.2.2.1 t3.2.2.2).bind fun t4 => ((spec_l06Var.f k t4.2.1 t4.2.2.1 t4.2.2.2).bind fun t5 => (if t5.2.2.2 = true then (some (0, 0, 0, 0, 0, (⟨#[]⟩ : ByteArray), false)) else (if 0 < (t1.1.size : Int) then (if 0 ≤ t5.2.2.1 then (if t5.2.2.1 ≤ (t1.1.size : Int) then none else none) else none) else none))))))))
noncomputable def spec_ReadPage.e (r : Int × Int × Int × Int × Int × ByteArray × Bool) : Res Ty D := (.tu [.ag [.sc (.int .i64 r.1), .sc (.int .i64 r.2.1), .sc (.int .i64 r.2.2.1), .sc (.int .i64 r.2.2.2.1), .sc (.int .i64 r.2.2.2.2.1), .sc (.string r.2.2.2.2.2.1)], .sc (.bool r.2.2.2.2.2.2)], [], [])
noncomputable abbrev spec_ReadPage.g (rec : List Item → St Ty D → R) (k : Nat) := go1 Tryz.f48 (spec_ReadPage.ctx k) spec_ReadPage.sp 0 spec_ReadPage.en rec
set_option maxRecDepth 100000 in
theorem spec_ReadPage.te (rec : List Item → St Ty D → R) (k : Nat) (a0 : ByteArray) : spec_ReadPage.g rec k [.code (body Tryz.f48)] (startSt [.sc (.string a0)] []) =
  (spec_Unsealed.f k a0).bind fun t1 => bif !t1.2 then (spec_l06Var.f k t1.1 1 true).bind fun t2 => (spec_l06Var.f k t2.2.1 t2.2.2.1 t2.2.2.2).bind fun t3 => (spec_l06Var.f k t3.2.1 t3.2.2.1 t3.2.2.2).bind fun t4 => (spec_l06Var.f k t4.2.1 t4.2.2.1 t4.2.2.2).bind fun t5 => bif t5.2.2.2 then some (spec_ReadPage.e (0, 0, 0, 0, 0, (⟨#[]⟩ : ByteArray), false)) else bif decide (0 < (t1.1.size : Int)) then bif decide (0 ≤ t5.2.2.1) then bif decide (t5.2.2.1 ≤ (t1.1.size : Int)) then none else none else none else none else (spec_l06Var.f k t1.1 1 (decide ((t1.1.size : Int) < 1))).bind fun t6 => (spec_l06Var.f k t6.2.1 t6.2.2.1 t6.2.2.2).bind fun t7 => (spec_l06Var.f k t7.2.1 t7.2.2.1 t7.2.2.2).bind fun t8 => (spec_l06Var.f k t8.2.1 t8.2.2.1 t8.2.2.2).bind fun t9 => bif t9.2.2.2 then some (spec_ReadPage.e (0, 0, 0, 0, 0, (⟨#[]⟩ : ByteArray), false)) else bif decide (0 < (t1.1.size : Int)) then bif decide (0 ≤ t9.2.2.1) then bif decide (t9.2.2.1 ≤ (t1.1.size : Int)) then none else none else none else none := by kernel_rfl
set_option maxRecDepth 100000 in
theorem spec_ReadPage.oke (k : Nat) (a0 : ByteArray) : goF Tryz.f48 spec_ReadPage.ctx spec_ReadPage.sp 0 spec_ReadPage.en (k + 1) [.code (body Tryz.f48)] (startSt [.sc (.string a0)] []) = (spec_ReadPage.f k a0).map spec_ReadPage.e := by
  rw [spec_ReadPage.f]; exact (spec_ReadPage.te _ k a0).trans (bn (fun t1 => (nb (bn (fun t2 => (bn (fun t3 => (bn (fun t4 => (bn (fun t5 => (cb rfl (cd (cd (cd rfl rfl) rfl) rfl)))))))))) (bn (fun t6 => (bn (fun t7 => (bn (fun t8 => (bn (fun t9 => (cb rfl (cd (cd (cd rfl rfl) rfl) rfl)))))))))))))
theorem spec_ReadPage.con (k : Nat) (a0 : ByteArray) (r) (h : spec_ReadPage.f k a0 = some r) : Contract Tryz.prog kit 48 [.sc (.string a0)] [] (spec_ReadPage.e r).1 (spec_ReadPage.e r).2.1 (spec_ReadPage.e r).2.2 :=
  con_okG kitOk mix (fun k => (CtxOk.cons (spec_Unsealed.xok k) (CtxOk.cons (spec_l06Var.xok k) CtxOk.nil))) (spec_ReadPage.oke k a0) h (by kernel_rfl) (by kernel_rfl) (by kernel_rfl) rfl (by kernel_rfl) rfl rfl
noncomputable def spec_ReadPage.x (k : Nat) : X := fun ins bs κ => match ins, bs with
  | [.sc (.string a0)], [] => (spec_ReadPage.f k a0).bind fun r => κ (spec_ReadPage.e r).1 (spec_ReadPage.e r).2.1 (spec_ReadPage.e r).2.2
  | _, _ => none
theorem spec_ReadPage.xok (k : Nat) : XOk 48 (spec_ReadPage.x k) := by
  intro ins bs κ res h
  unfold spec_ReadPage.x at h
  split at h
  · obtain ⟨r, hr, h⟩ := Option.bind_eq_some_iff.1 h
    exact ⟨_, _, _, spec_ReadPage.con k _ r hr, h⟩
  · cases h

/-! ### spec_ScanAll: function 21 -/
noncomputable def spec_ScanAll.sp : Nat → Option (Spec Ty) := fun r => bif Nat.beq r 3 then some ⟨[(1, .box [.keep]), (3, .own .t57), (4, .keep)], []⟩ else bif Nat.beq r 6 then some ⟨[(1, .box [.keep]), (3, .own .t57), (4, .keep), (5, .keep)], []⟩ else bif Nat.beq r 13 then some ⟨[(3, .own .t57), (10, .keep)], []⟩ else bif Nat.beq r 16 then some ⟨[(3, .own .t57), (10, .keep), (11, .keep)], []⟩ else none
noncomputable def spec_ScanAll.en : Option (Spec Ty) := some ⟨[(2, .own .t57)], []⟩
noncomputable def spec_ScanAll.s3 (x4 : Int) (h64_0 : List S48) (h65 : List S57) : St Ty D := ⟨(Env.put (Env.put (Env.put E (some 1) (.pt 64 0 0)) (some 3) (.sl 65 none)) (some 4) (.sc (.int .i64 x4))), Heap.put H0 [(64, some (.box [.row 0 .t48 h64_0])), (65, some (.rowb .t57 h65 0))], 1000⟩
noncomputable def spec_ScanAll.s6 (x4 : Int) (x5 : Int) (h64_0 : List S48) (h65 : List S57) : St Ty D := ⟨(Env.put (Env.put (Env.put (Env.put E (some 1) (.pt 64 0 0)) (some 3) (.sl 65 none)) (some 4) (.sc (.int .i64 x4))) (some 5) (.sc (.int .i64 x5))), Heap.put H0 [(64, some (.box [.row 0 .t48 h64_0])), (65, some (.rowb .t57 h65 0))], 1000⟩
noncomputable def spec_ScanAll.s13 (x10 : Int) (h64 : List S57) : St Ty D := ⟨(Env.put (Env.put E (some 3) (.sl 64 none)) (some 10) (.sc (.int .i64 x10))), Heap.put H0 [(64, some (.rowb .t57 h64 0))], 1000⟩
noncomputable def spec_ScanAll.s16 (x10 : Int) (x11 : Int) (h64 : List S57) : St Ty D := ⟨(Env.put (Env.put (Env.put E (some 3) (.sl 64 none)) (some 10) (.sc (.int .i64 x10))) (some 11) (.sc (.int .i64 x11))), Heap.put H0 [(64, some (.rowb .t57 h64 0))], 1000⟩
noncomputable def spec_ScanAll.ctx (k : Nat) : Ctx Ty D := (cons 47 (spec_ReadLeaf.x k) (cons 48 (spec_ReadPage.x k) (fun _ _ _ _ => none)))
mutual
noncomputable def spec_ScanAll.c3 : Nat → Int → (List S48) → (List S57) → Option ((List S57))
  | 0, _, _, _ => none
  | k + 1, x4, h64_0, h65 => (if x4 < (h64_0.length : Int) then (spec_ScanAll.c6 k x4 0 h64_0 h65) else (spec_ScanAll.c13 k 1 h65))
noncomputable def spec_ScanAll.c6 : Nat → Int → Int → (List S48) → (List S57) → Option ((List S57))
  | 0, _, _, _, _ => none
  | k + 1, x4, x5, h64_0, h65 => (if 0 ≤ x4 then (if x4 < (h64_0.length : Int) then (if x5 < (((rd_T48 h64_0 x4).f2).length : Int) then ((spec_ReadLeaf.f k h64_0 x4 x5).bind fun t1 => ((spec_ReadPage.f k t1.1).bind fun t2 => (if t1.2 = true then (if t2.2.2.2.2.2.2 = true then (if h65.length + ([(S57.mk x4 x5 (S55.mk t2.1 t2.2.1 t2.2.2.1 t2.2.2.2.1 t2.2.2.2.2.1 t2.2.2.2.2.2.1))] : List S57).length ≤ 1954687338268 then (spec_ScanAll.c6 k x4 (w64 (x5 + 1)) h64_0 (h65 ++ ([(S57.mk x4 x5 (S55.mk t2.1 t2.2.1 t2.2.2.1 t2.2.2.2.1 t2.2.2.2.2.1 t2.2.2.2.2.2.1))] : List S57))) else none) else (spec_ScanAll.c6 k x4 (w64 (x5 + 1)) h64_0 h65)) else (spec_ScanAll.c6 k x4 (w64 (x5 + 1)) h64_0 h65)))) else (spec_ScanAll.c3 k (w64 (x4 + 1)) h64_0 h65)) else none) else none)
noncomputable def spec_ScanAll.c13 : Nat → Int → (List S57) → Option ((List S57))
  | 0, _, _ => none
  | k + 1, x10, h64 => (if x10 < (h64.length : Int) then (spec_ScanAll.c16 k x10 x10 h64) else (some (h64)))
noncomputable def spec_ScanAll.c16 : Nat → Int → Int → (List S57) → Option ((List S57))
  | 0, _, _, _ => none
  | k + 1, x10, x11, h64 => (if x11 > 0 then (if 0 ≤ (w64 (x11 - 1)) then (if (w64 (x11 - 1)) < (h64.length : Int) then (if 0 ≤ x11 then (if x11 < (h64.length : Int) then (if ((rd_T57 h64 (w64 (x11 - 1))).f2.f1) > ((rd_T57 h64 x11).f2.f1) then (if 0 ≤ x11 then (if x11 < (h64.length : Int) then (if 0 ≤ (w64 (x11 - 1)) then (if (w64 (x11 - 1)) < (h64.length : Int) then (if 0 ≤ x11 then (if x11 < (h64.length : Int) then (if 0 ≤ (w64 (x11 - 1)) then (if (w64 (x11 - 1)) < ((h64.set x11.toNat (S57.mk ((rd_T57 h64 (w64 (x11 - 1))).f0) ((rd_T57 h64 (w64 (x11 - 1))).f1) (S55.mk ((rd_T57 h64 (w64 (x11 - 1))).f2.f0) ((rd_T57 h64 (w64 (x11 - 1))).f2.f1) ((rd_T57 h64 (w64 (x11 - 1))).f2.f2) ((rd_T57 h64 (w64 (x11 - 1))).f2.f3) ((rd_T57 h64 (w64 (x11 - 1))).f2.f4) ((rd_T57 h64 (w64 (x11 - 1))).f2.f5)))).length : Int) then (spec_ScanAll.c16 k x10 (w64 (x11 - 1)) ((h64.set x11.toNat (S57.mk ((rd_T57 h64 (w64 (x11 - 1))).f0) ((rd_T57 h64 (w64 (x11 - 1))).f1) (S55.mk ((rd_T57 h64 (w64 (x11 - 1))).f2.f0) ((rd_T57 h64 (w64 (x11 - 1))).f2.f1) ((rd_T57 h64 (w64 (x11 - 1))).f2.f2) ((rd_T57 h64 (w64 (x11 - 1))).f2.f3) ((rd_T57 h64 (w64 (x11 - 1))).f2.f4) ((rd_T57 h64 (w64 (x11 - 1))).f2.f5)))).set ((w64 (x11 - 1)).toNat) (S57.mk ((rd_T57 h64 x11).f0) ((rd_T57 h64 x11).f1) (S55.mk ((rd_T57 h64 x11).f2.f0) ((rd_T57 h64 x11).f2.f1) ((rd_T57 h64 x11).f2.f2) ((rd_T57 h64 x11).f2.f3) ((rd_T57 h64 x11).f2.f4) ((rd_T57 h64 x11).f2.f5))))) else none) else none) else none) else none) else none) else none) else none) else none) else (spec_ScanAll.c13 k (w64 (x10 + 1)) h64)) else none) else none) else none) else none) else (spec_ScanAll.c13 k (w64 (x10 + 1)) h64))
end
noncomputable def spec_ScanAll.f (k : Nat) (a0_0 : List S48) : Option ((List S57)) := (spec_ScanAll.c3 k 0 a0_0 ([] : List S57))
noncomputable def spec_ScanAll.e (r : (List S57)) : Res Ty D := (.sl 0 none, [], [.rowb .t57 r 0])
noncomputable abbrev spec_ScanAll.g (rec : List Item → St Ty D → R) (k : Nat) := go1 Tryz.f21 (spec_ScanAll.ctx k) spec_ScanAll.sp 0 spec_ScanAll.en rec
set_option maxRecDepth 100000 in
theorem spec_ScanAll.t3 (rec : List Item → St Ty D → R) (k : Nat) (x4 : Int) (h64_0 : List S48) (h65 : List S57) : spec_ScanAll.g rec k (td Tryz.f21 3) (spec_ScanAll.s3 x4 h64_0 h65) =
  bif decide (x4 < (h64_0.length : Int)) then rec (td Tryz.f21 6) (spec_ScanAll.s6 x4 0 h64_0 h65) else rec (td Tryz.f21 13) (spec_ScanAll.s13 1 h65) := by kernel_rfl
set_option maxRecDepth 100000 in
theorem spec_ScanAll.t6 (rec : List Item → St Ty D → R) (k : Nat) (x4 : Int) (x5 : Int) (h64_0 : List S48) (h65 : List S57) : spec_ScanAll.g rec k (td Tryz.f21 6) (spec_ScanAll.s6 x4 x5 h64_0 h65) =
  bif decide (0 ≤ x4) then bif decide (x4 < (h64_0.length : Int)) then bif decide (x5 < (((rd_T48 h64_0 x4).f2).length : Int)) then (spec_ReadLeaf.f k h64_0 x4 x5).bind fun t1 => (spec_ReadPage.f k t1.1).bind fun t2 => bif t1.2 then bif t2.2.2.2.2.2.2 then bif decide (h65.length + ([(S57.mk x4 x5 (S55.mk t2.1 t2.2.1 t2.2.2.1 t2.2.2.2.1 t2.2.2.2.2.1 t2.2.2.2.2.2.1))] : List S57).length ≤ 1954687338268) then rec (td Tryz.f21 6) (spec_ScanAll.s6 x4 (w64 (x5 + 1)) h64_0 (h65 ++ ([(S57.mk x4 x5 (S55.mk t2.1 t2.2.1 t2.2.2.1 t2.2.2.2.1 t2.2.2.2.2.1 t2.2.2.2.2.2.1))] : List S57))) else none else rec (td Tryz.f21 6) (spec_ScanAll.s6 x4 (w64 (x5 + 1)) h64_0 h65) else rec (td Tryz.f21 6) (spec_ScanAll.s6 x4 (w64 (x5 + 1)) h64_0 h65) else rec (td Tryz.f21 3) (spec_ScanAll.s3 (w64 (x4 + 1)) h64_0 h65) else none else none := by kernel_rfl
set_option maxRecDepth 100000 in
theorem spec_ScanAll.t13 (rec : List Item → St Ty D → R) (k : Nat) (x10 : Int) (h64 : List S57) : spec_ScanAll.g rec k (td Tryz.f21 13) (spec_ScanAll.s13 x10 h64) =
  bif decide (x10 < (h64.length : Int)) then rec (td Tryz.f21 16) (spec_ScanAll.s16 x10 x10 h64) else some (spec_ScanAll.e (h64)) := by kernel_rfl
set_option maxRecDepth 100000 in
theorem spec_ScanAll.t16 (rec : List Item → St Ty D → R) (k : Nat) (x10 : Int) (x11 : Int) (h64 : List S57) : spec_ScanAll.g rec k (td Tryz.f21 16) (spec_ScanAll.s16 x10 x11 h64) =
  bif decide (x11 > 0) then bif decide (0 ≤ (w64 (x11 - 1))) then bif decide ((w64 (x11 - 1)) < (h64.length : Int)) then bif decide (0 ≤ x11) then bif decide (x11 < (h64.length : Int)) then bif decide (((rd_T57 h64 (w64 (x11 - 1))).f2.f1) > ((rd_T57 h64 x11).f2.f1)) then bif decide (0 ≤ x11) then bif decide (x11 < (h64.length : Int)) then bif decide (0 ≤ (w64 (x11 - 1))) then bif decide ((w64 (x11 - 1)) < (h64.length : Int)) then bif decide (0 ≤ x11) then bif decide (x11 < (h64.length : Int)) then bif decide (0 ≤ (w64 (x11 - 1))) then bif decide ((w64 (x11 - 1)) < ((h64.set x11.toNat (S57.mk ((rd_T57 h64 (w64 (x11 - 1))).f0) ((rd_T57 h64 (w64 (x11 - 1))).f1) (S55.mk ((rd_T57 h64 (w64 (x11 - 1))).f2.f0) ((rd_T57 h64 (w64 (x11 - 1))).f2.f1) ((rd_T57 h64 (w64 (x11 - 1))).f2.f2) ((rd_T57 h64 (w64 (x11 - 1))).f2.f3) ((rd_T57 h64 (w64 (x11 - 1))).f2.f4) ((rd_T57 h64 (w64 (x11 - 1))).f2.f5)))).length : Int)) then rec (td Tryz.f21 16) (spec_ScanAll.s16 x10 (w64 (x11 - 1)) ((h64.set x11.toNat (S57.mk ((rd_T57 h64 (w64 (x11 - 1))).f0) ((rd_T57 h64 (w64 (x11 - 1))).f1) (S55.mk ((rd_T57 h64 (w64 (x11 - 1))).f2.f0) ((rd_T57 h64 (w64 (x11 - 1))).f2.f1) ((rd_T57 h64 (w64 (x11 - 1))).f2.f2) ((rd_T57 h64 (w64 (x11 - 1))).f2.f3) ((rd_T57 h64 (w64 (x11 - 1))).f2.f4) ((rd_T57 h64 (w64 (x11 - 1))).f2.f5)))).set ((w64 (x11 - 1)).toNat) (S57.mk ((rd_T57 h64 x11).f0) ((rd_T57 h64 x11).f1) (S55.mk ((rd_T57 h64 x11).f2.f0) ((rd_T57 h64 x11).f2.f1) ((rd_T57 h64 x11).f2.f2) ((rd_T57 h64 x11).f2.f3) ((rd_T57 h64 x11).f2.f4) ((rd_T57 h64 x11).f2.f5))))) else none else none else none else none else none else none else none else none else rec (td Tryz.f21 13) (spec_ScanAll.s13 (w64 (x10 + 1)) h64) else none else none else none else none else rec (td Tryz.f21 13) (spec_ScanAll.s13 (w64 (x10 + 1)) h64) := by kernel_rfl
set_option maxRecDepth 100000 in
theorem spec_ScanAll.te (rec : List Item → St Ty D → R) (k : Nat) (a0_0 : List S48) : spec_ScanAll.g rec k [.code (body Tryz.f21)] (startSt [.ag [.row 0 .t48 a0_0]] []) =
  rec (td Tryz.f21 3) (spec_ScanAll.s3 0 a0_0 ([] : List S57)) := by kernel_rfl
set_option maxRecDepth 100000 in
theorem spec_ScanAll.ok : ∀ k : Nat, (∀ (x4 : Int) (h64_0 : List S48) (h65 : List S57), goF Tryz.f21 spec_ScanAll.ctx spec_ScanAll.sp 0 spec_ScanAll.en k (td Tryz.f21 3) (spec_ScanAll.s3 x4 h64_0 h65) = (spec_ScanAll.c3 k x4 h64_0 h65).map spec_ScanAll.e) ∧ (∀ (x4 : Int) (x5 : Int) (h64_0 : List S48) (h65 : List S57), goF Tryz.f21 spec_ScanAll.ctx spec_ScanAll.sp 0 spec_ScanAll.en k (td Tryz.f21 6) (spec_ScanAll.s6 x4 x5 h64_0 h65) = (spec_ScanAll.c6 k x4 x5 h64_0 h65).map spec_ScanAll.e) ∧ (∀ (x10 : Int) (h64 : List S57), goF Tryz.f21 spec_ScanAll.ctx spec_ScanAll.sp 0 spec_ScanAll.en k (td Tryz.f21 13) (spec_ScanAll.s13 x10 h64) = (spec_ScanAll.c13 k x10 h64).map spec_ScanAll.e) ∧ (∀ (x10 : Int) (x11 : Int) (h64 : List S57), goF Tryz.f21 spec_ScanAll.ctx spec_ScanAll.sp 0 spec_ScanAll.en k (td Tryz.f21 16) (spec_ScanAll.s16 x10 x11 h64) = (spec_ScanAll.c16 k x10 x11 h64).map spec_ScanAll.e)
  | 0 => ⟨fun _ _ _ => rfl, fun _ _ _ _ => rfl, fun _ _ => rfl, fun _ _ _ => rfl⟩
  | k + 1 => by
    have ih := spec_ScanAll.ok k
    obtain ⟨i3, i6, i13, i16⟩ := ih
    refine ⟨?_, ?_, ?_, ?_⟩
    · intro x4 h64_0 h65; rw [spec_ScanAll.c3]; exact (spec_ScanAll.t3 _ k x4 h64_0 h65).trans (cd (i6 _ _ _ _) (i13 _ _))
    · intro x4 x5 h64_0 h65; rw [spec_ScanAll.c6]; exact (spec_ScanAll.t6 _ k x4 x5 h64_0 h65).trans (cd (cd (cd (bn (fun t1 => (bn (fun t2 => (cb (cb (cd (i6 _ _ _ _) rfl) (i6 _ _ _ _)) (i6 _ _ _ _)))))) (i3 _ _ _)) rfl) rfl)
    · intro x10 h64; rw [spec_ScanAll.c13]; exact (spec_ScanAll.t13 _ k x10 h64).trans (cd (i16 _ _ _) rfl)
    · intro x10 x11 h64; rw [spec_ScanAll.c16]; exact (spec_ScanAll.t16 _ k x10 x11 h64).trans (cd (cd (cd (cd (cd (cd (cd (cd (cd (cd (cd (cd (cd (cd (i16 _ _ _) rfl) rfl) rfl) rfl) rfl) rfl) rfl) rfl) (i13 _ _)) rfl) rfl) rfl) rfl) (i13 _ _))
set_option maxRecDepth 100000 in
theorem spec_ScanAll.oke (k : Nat) (a0_0 : List S48) : goF Tryz.f21 spec_ScanAll.ctx spec_ScanAll.sp 0 spec_ScanAll.en (k + 1) [.code (body Tryz.f21)] (startSt [.ag [.row 0 .t48 a0_0]] []) = (spec_ScanAll.f k a0_0).map spec_ScanAll.e := by
  obtain ⟨i3, i6, i13, i16⟩ := spec_ScanAll.ok k
  rw [spec_ScanAll.f]; exact (spec_ScanAll.te _ k a0_0).trans (i3 _ _ _)
theorem spec_ScanAll.con (k : Nat) (a0_0 : List S48) (r) (h : spec_ScanAll.f k a0_0 = some r) : Contract Tryz.prog kit 21 [.ag [.row 0 .t48 a0_0]] [] (spec_ScanAll.e r).1 (spec_ScanAll.e r).2.1 (spec_ScanAll.e r).2.2 :=
  con_okG kitOk mix (fun k => (CtxOk.cons (spec_ReadLeaf.xok k) (CtxOk.cons (spec_ReadPage.xok k) CtxOk.nil))) (spec_ScanAll.oke k a0_0) h (by kernel_rfl) (by kernel_rfl) (by kernel_rfl) rfl (by kernel_rfl) rfl rfl
noncomputable def spec_ScanAll.x (k : Nat) : X := fun ins bs κ => match ins, bs with
  | [.ag [.row 0 .t48 a0_0]], [] => (spec_ScanAll.f k a0_0).bind fun r => κ (spec_ScanAll.e r).1 (spec_ScanAll.e r).2.1 (spec_ScanAll.e r).2.2
  | _, _ => none
theorem spec_ScanAll.xok (k : Nat) : XOk 21 (spec_ScanAll.x k) := by
  intro ins bs κ res h
  unfold spec_ScanAll.x at h
  split at h
  · obtain ⟨r, hr, h⟩ := Option.bind_eq_some_iff.1 h
    exact ⟨_, _, _, spec_ScanAll.con k _ r hr, h⟩
  · cases h
end Go.Proofs.YtmboeckendhdnaaGreat.M2

/- Plain runs of functions: each is a plain Lean function, and keeps its contract. Written by a program of this session. -/
namespace Go.Proofs.YtmboeckendhdnaaGreat.M2
open Go Go.Proofs.YtmboeckendhdnaaGreat.PK
set_option linter.unusedVariables false
set_option linter.unusedSimpArgs false
set_option maxHeartbeats 4000000
/-! ### spec_l05Copy: function 22 -/
noncomputable def spec_l05Copy.sp : Nat → Option (Spec Ty) := fun r => bif Nat.beq r 3 then some ⟨[(1, .box [.keep]), (2, .box [.own .t48]), (3, .box [.own .t48]), (4, .keep)], []⟩ else none
noncomputable def spec_l05Copy.en : Option (Spec Ty) := some ⟨[(2, .box [.own .t48])], []⟩
noncomputable def spec_l05Copy.s3 (x4 : Int) (h64_0 : List S48) (h66 : List S48) (h68 : List S48) : St Ty D := ⟨(Env.put (Env.put (Env.put (Env.put E (some 1) (.pt 64 0 0)) (some 2) (.pt 65 0 0)) (some 3) (.pt 67 0 0)) (some 4) (.sc (.int .i64 x4))), Heap.put H0 [(64, some (.box [.row 0 .t48 h64_0])), (66, some (.rowb .t48 h66 0)), (65, some (.box [.sl 66 none])), (68, some (.rowb .t48 h68 0)), (67, some (.box [.sl 68 none]))], 1000⟩
noncomputable def spec_l05Copy.ctx (k : Nat) : Ctx Ty D := (fun _ _ _ _ => none)
noncomputable def spec_l05Copy.c3 : Nat → Int → (List S48) → (List S48) → (List S48) → Option ((List S48))
  | 0, _, _, _, _ => none
  | k + 1, x4, h64_0, h66, h68 => (if x4 < (h64_0.length : Int) then (if 0 ≤ x4 then (if x4 < (h64_0.length : Int) then (if ([] : List S76).length + ((rd_T48 h64_0 x4).f2).length ≤ 5864062014805 then (if h68.length + ([(S48.mk ((rd_T48 h64_0 x4).f0) ((rd_T48 h64_0 x4).f1) (([] : List S76) ++ ((rd_T48 h64_0 x4).f2)))] : List S48).length ≤ 3518437208883 then (spec_l05Copy.c3 k (w64 (x4 + 1)) h64_0 h66 (h68 ++ ([(S48.mk ((rd_T48 h64_0 x4).f0) ((rd_T48 h64_0 x4).f1) (([] : List S76) ++ ((rd_T48 h64_0 x4).f2)))] : List S48))) else none) else none) else none) else none) else (some (h68)))
noncomputable def spec_l05Copy.f (k : Nat) (a0_0 : List S48) : Option ((List S48)) := (spec_l05Copy.c3 k 0 a0_0 ([] : List S48) ([] : List S48))
noncomputable def spec_l05Copy.e (r : (List S48)) : Res Ty D := (.ag [.sl 0 none], [], [.rowb .t48 r 0])
noncomputable abbrev spec_l05Copy.g (rec : List Item → St Ty D → R) (k : Nat) := go1 Tryz.f22 (spec_l05Copy.ctx k) spec_l05Copy.sp 0 spec_l05Copy.en rec
set_option maxRecDepth 100000 in
theorem spec_l05Copy.t3 (rec : List Item → St Ty D → R) (k : Nat) (x4 : Int) (h64_0 : List S48) (h66 : List S48) (h68 : List S48) : spec_l05Copy.g rec k (td Tryz.f22 3) (spec_l05Copy.s3 x4 h64_0 h66 h68) =
  bif decide (x4 < (h64_0.length : Int)) then bif decide (0 ≤ x4) then bif decide (x4 < (h64_0.length : Int)) then bif decide (([] : List S76).length + ((rd_T48 h64_0 x4).f2).length ≤ 5864062014805) then bif decide (h68.length + ([(S48.mk ((rd_T48 h64_0 x4).f0) ((rd_T48 h64_0 x4).f1) (([] : List S76) ++ ((rd_T48 h64_0 x4).f2)))] : List S48).length ≤ 3518437208883) then rec (td Tryz.f22 3) (spec_l05Copy.s3 (w64 (x4 + 1)) h64_0 h66 (h68 ++ ([(S48.mk ((rd_T48 h64_0 x4).f0) ((rd_T48 h64_0 x4).f1) (([] : List S76) ++ ((rd_T48 h64_0 x4).f2)))] : List S48))) else none else none else none else none else some (spec_l05Copy.e (h68)) := by kernel_rfl
set_option maxRecDepth 100000 in
theorem spec_l05Copy.te (rec : List Item → St Ty D → R) (k : Nat) (a0_0 : List S48) : spec_l05Copy.g rec k [.code (body Tryz.f22)] (startSt [.ag [.row 0 .t48 a0_0]] []) =
  rec (td Tryz.f22 3) (spec_l05Copy.s3 0 a0_0 ([] : List S48) ([] : List S48)) := by kernel_rfl
set_option maxRecDepth 100000 in
theorem spec_l05Copy.ok : ∀ k : Nat, (∀ (x4 : Int) (h64_0 : List S48) (h66 : List S48) (h68 : List S48), goF Tryz.f22 spec_l05Copy.ctx spec_l05Copy.sp 0 spec_l05Copy.en k (td Tryz.f22 3) (spec_l05Copy.s3 x4 h64_0 h66 h68) = (spec_l05Copy.c3 k x4 h64_0 h66 h68).map spec_l05Copy.e)
  | 0 => fun _ _ _ _ => rfl
  | k + 1 => by
    have ih := spec_l05Copy.ok k
    have i3 := ih
    intro x4 h64_0 h66 h68; rw [spec_l05Copy.c3]; exact (spec_l05Copy.t3 _ k x4 h64_0 h66 h68).trans (cd (cd (cd (cd (cd (i3 _ _ _ _) rfl) rfl) rfl) rfl) rfl)
set_option maxRecDepth 100000 in
theorem spec_l05Copy.oke (k : Nat) (a0_0 : List S48) : goF Tryz.f22 spec_l05Copy.ctx spec_l05Copy.sp 0 spec_l05Copy.en (k + 1) [.code (body Tryz.f22)] (startSt [.ag [.row 0 .t48 a0_0]] []) = (spec_l05Copy.f k a0_0).map spec_l05Copy.e := by
  have i3 := spec_l05Copy.ok k
  rw [spec_l05Copy.f]; exact (spec_l05Copy.te _ k a0_0).trans (i3 _ _ _ _)
theorem spec_l05Copy.con (k : Nat) (a0_0 : List S48) (r) (h : spec_l05Copy.f k a0_0 = some r) : Contract Tryz.prog kit 22 [.ag [.row 0 .t48 a0_0]] [] (spec_l05Copy.e r).1 (spec_l05Copy.e r).2.1 (spec_l05Copy.e r).2.2 :=
  con_okG kitOk mix (fun k => CtxOk.nil) (spec_l05Copy.oke k a0_0) h (by kernel_rfl) (by kernel_rfl) (by kernel_rfl) rfl (by kernel_rfl) rfl rfl
noncomputable def spec_l05Copy.x (k : Nat) : X := fun ins bs κ => match ins, bs with
  | [.ag [.row 0 .t48 a0_0]], [] => (spec_l05Copy.f k a0_0).bind fun r => κ (spec_l05Copy.e r).1 (spec_l05Copy.e r).2.1 (spec_l05Copy.e r).2.2
  | _, _ => none
theorem spec_l05Copy.xok (k : Nat) : XOk 22 (spec_l05Copy.x k) := by
  intro ins bs κ res h
  unfold spec_l05Copy.x at h
  split at h
  · obtain ⟨r, hr, h⟩ := Option.bind_eq_some_iff.1 h
    exact ⟨_, _, _, spec_l05Copy.con k _ r hr, h⟩
  · cases h

/-! ### spec_StoreNew: function 23 -/
noncomputable def spec_StoreNew.sp : Nat → Option (Spec Ty) := fun r => none
noncomputable def spec_StoreNew.en : Option (Spec Ty) := some ⟨[(0, .box [.own .t96, .own .t132, .keep])], []⟩
noncomputable def spec_StoreNew.ctx (k : Nat) : Ctx Ty D := (fun _ _ _ _ => none)
noncomputable def spec_StoreNew.f (k : Nat) : Option ((List S96) × (List S132) × Int) := (some (([] : List S96), ([] : List S132), 1))
noncomputable def spec_StoreNew.e (r : (List S96) × (List S132) × Int) : Res Ty D := (.ag [.sl 0 none, .sl 1 none, .sc (.int .i64 r.2.2)], [], [.rowb .t96 r.1 0, .rowb .t132 r.2.1 0])
noncomputable abbrev spec_StoreNew.g (rec : List Item → St Ty D → R) (k : Nat) := go1 Tryz.f23 (spec_StoreNew.ctx k) spec_StoreNew.sp 0 spec_StoreNew.en rec
set_option maxRecDepth 100000 in
theorem spec_StoreNew.te (rec : List Item → St Ty D → R) (k : Nat) : spec_StoreNew.g rec k [.code (body Tryz.f23)] (startSt [] []) =
  some (spec_StoreNew.e (([] : List S96), ([] : List S132), 1)) := by kernel_rfl
set_option maxRecDepth 100000 in
theorem spec_StoreNew.oke (k : Nat) : goF Tryz.f23 spec_StoreNew.ctx spec_StoreNew.sp 0 spec_StoreNew.en (k + 1) [.code (body Tryz.f23)] (startSt [] []) = (spec_StoreNew.f k).map spec_StoreNew.e := by
  rw [spec_StoreNew.f]; exact (spec_StoreNew.te _ k).trans rfl
theorem spec_StoreNew.con (k : Nat) (r) (h : spec_StoreNew.f k = some r) : Contract Tryz.prog kit 23 [] [] (spec_StoreNew.e r).1 (spec_StoreNew.e r).2.1 (spec_StoreNew.e r).2.2 :=
  con_okG kitOk mix (fun k => CtxOk.nil) (spec_StoreNew.oke k) h (by kernel_rfl) (by kernel_rfl) (by kernel_rfl) rfl (by kernel_rfl) rfl rfl
noncomputable def spec_StoreNew.x (k : Nat) : X := fun ins bs κ => match ins, bs with
  | [], [] => (spec_StoreNew.f k).bind fun r => κ (spec_StoreNew.e r).1 (spec_StoreNew.e r).2.1 (spec_StoreNew.e r).2.2
  | _, _ => none
theorem spec_StoreNew.xok (k : Nat) : XOk 23 (spec_StoreNew.x k) := by
  intro ins bs κ res h
  unfold spec_StoreNew.x at h
  split at h
  · obtain ⟨r, hr, h⟩ := Option.bind_eq_some_iff.1 h
    exact ⟨_, _, _, spec_StoreNew.con k r hr, h⟩
  · cases h

/-! ### spec_SinceBase: function 24 -/
noncomputable def spec_SinceBase.sp : Nat → Option (Spec Ty) := fun r => bif Nat.beq r 3 then some ⟨[(0, .keep), (3, .keep), (4, .keep)], []⟩ else bif Nat.beq r 9 then some ⟨[(0, .keep), (5, .own .t63), (6, .keep)], []⟩ else none
noncomputable def spec_SinceBase.en : Option (Spec Ty) := some ⟨[(2, .own .t63)], []⟩
noncomputable def spec_SinceBase.s3 (x0 : List S63) (x3 : Int) (x4 : Int) : St Ty D := ⟨(Env.put (Env.put (Env.put E (some 0) (.row 0 .t63 x0)) (some 3) (.sc (.int .i64 x3))) (some 4) (.sc (.int .i64 x4))), H0, 1000⟩
noncomputable def spec_SinceBase.s9 (x0 : List S63) (x6 : Int) (h64 : List S63) : St Ty D := ⟨(Env.put (Env.put (Env.put E (some 0) (.row 0 .t63 x0)) (some 5) (.sl 64 none)) (some 6) (.sc (.int .i64 x6))), Heap.put H0 [(64, some (.rowb .t63 h64 0))], 1000⟩
noncomputable def spec_SinceBase.ctx (k : Nat) : Ctx Ty D := (fun _ _ _ _ => none)
mutual
noncomputable def spec_SinceBase.c3 : Nat → (List S63) → Int → Int → Option ((List S63))
  | 0, _, _, _ => none
  | k + 1, x0, x3, x4 => (if x4 < (x0.length : Int) then (if 0 ≤ x4 then (if x4 < (x0.length : Int) then (if (((rd_T63 x0 x4).f2).length : Int) > 0 then (if 0 ≤ x4 then (if x4 < (x0.length : Int) then (if 0 < (((rd_T63 x0 x4).f2).length : Int) then (if ((rd_T82 ((rd_T63 x0 x4).f2) 0).f0) = 1 then (spec_SinceBase.c3 k x0 x4 (w64 (x4 + 1))) else (spec_SinceBase.c3 k x0 x3 (w64 (x4 + 1)))) else none) else none) else none) else (spec_SinceBase.c3 k x0 x3 (w64 (x4 + 1)))) else none) else none) else (spec_SinceBase.c9 k x0 x3 ([] : List S63)))
noncomputable def spec_SinceBase.c9 : Nat → (List S63) → Int → (List S63) → Option ((List S63))
  | 0, _, _, _ => none
  | k + 1, x0, x6, h64 => (if x6 < (x0.length : Int) then (if 0 ≤ x6 then (if x6 < (x0.length : Int) then (if ([] : List S82).length + ((rd_T63 x0 x6).f2).length ≤ 4398046511104 then (if h64.length + ([(S63.mk ((rd_T63 x0 x6).f0) ((rd_T63 x0 x6).f1) (([] : List S82) ++ ((rd_T63 x0 x6).f2)))] : List S63).length ≤ 3518437208883 then (spec_SinceBase.c9 k x0 (w64 (x6 + 1)) (h64 ++ ([(S63.mk ((rd_T63 x0 x6).f0) ((rd_T63 x0 x6).f1) (([] : List S82) ++ ((rd_T63 x0 x6).f2)))] : List S63))) else none) else none) else none) else none) else (some (h64)))
end
noncomputable def spec_SinceBase.f (k : Nat) (a0 : List S63) : Option ((List S63)) := (spec_SinceBase.c3 k a0 0 0)
noncomputable def spec_SinceBase.e (r : (List S63)) : Res Ty D := (.sl 0 none, [], [.rowb .t63 r 0])
noncomputable abbrev spec_SinceBase.g (rec : List Item → St Ty D → R) (k : Nat) := go1 Tryz.f24 (spec_SinceBase.ctx k) spec_SinceBase.sp 0 spec_SinceBase.en rec
set_option maxRecDepth 100000 in
theorem spec_SinceBase.t3 (rec : List Item → St Ty D → R) (k : Nat) (x0 : List S63) (x3 : Int) (x4 : Int) : spec_SinceBase.g rec k (td Tryz.f24 3) (spec_SinceBase.s3 x0 x3 x4) =
  bif decide (x4 < (x0.length : Int)) then bif decide (0 ≤ x4) then bif decide (x4 < (x0.length : Int)) then bif decide ((((rd_T63 x0 x4).f2).length : Int) > 0) then bif decide (0 ≤ x4) then bif decide (x4 < (x0.length : Int)) then bif decide (0 < (((rd_T63 x0 x4).f2).length : Int)) then bif decide (((rd_T82 ((rd_T63 x0 x4).f2) 0).f0) = 1) then rec (td Tryz.f24 3) (spec_SinceBase.s3 x0 x4 (w64 (x4 + 1))) else rec (td Tryz.f24 3) (spec_SinceBase.s3 x0 x3 (w64 (x4 + 1))) else none else none else none else rec (td Tryz.f24 3) (spec_SinceBase.s3 x0 x3 (w64 (x4 + 1))) else none else none else rec (td Tryz.f24 9) (spec_SinceBase.s9 x0 x3 ([] : List S63)) := by kernel_rfl
set_option maxRecDepth 100000 in
theorem spec_SinceBase.t9 (rec : List Item → St Ty D → R) (k : Nat) (x0 : List S63) (x6 : Int) (h64 : List S63) : spec_SinceBase.g rec k (td Tryz.f24 9) (spec_SinceBase.s9 x0 x6 h64) =
  bif decide (x6 < (x0.length : Int)) then bif decide (0 ≤ x6) then bif decide (x6 < (x0.length : Int)) then bif decide (([] : List S82).length + ((rd_T63 x0 x6).f2).length ≤ 4398046511104) then bif decide (h64.length + ([(S63.mk ((rd_T63 x0 x6).f0) ((rd_T63 x0 x6).f1) (([] : List S82) ++ ((rd_T63 x0 x6).f2)))] : List S63).length ≤ 3518437208883) then rec (td Tryz.f24 9) (spec_SinceBase.s9 x0 (w64 (x6 + 1)) (h64 ++ ([(S63.mk ((rd_T63 x0 x6).f0) ((rd_T63 x0 x6).f1) (([] : List S82) ++ ((rd_T63 x0 x6).f2)))] : List S63))) else none else none else none else none else some (spec_SinceBase.e (h64)) := by kernel_rfl
set_option maxRecDepth 100000 in
theorem spec_SinceBase.te (rec : List Item → St Ty D → R) (k : Nat) (a0 : List S63) : spec_SinceBase.g rec k [.code (body Tryz.f24)] (startSt [.row 0 .t63 a0] []) =
  rec (td Tryz.f24 3) (spec_SinceBase.s3 a0 0 0) := by kernel_rfl
set_option maxRecDepth 100000 in
theorem spec_SinceBase.ok : ∀ k : Nat, (∀ (x0 : List S63) (x3 : Int) (x4 : Int), goF Tryz.f24 spec_SinceBase.ctx spec_SinceBase.sp 0 spec_SinceBase.en k (td Tryz.f24 3) (spec_SinceBase.s3 x0 x3 x4) = (spec_SinceBase.c3 k x0 x3 x4).map spec_SinceBase.e) ∧ (∀ (x0 : List S63) (x6 : Int) (h64 : List S63), goF Tryz.f24 spec_SinceBase.ctx spec_SinceBase.sp 0 spec_SinceBase.en k (td Tryz.f24 9) (spec_SinceBase.s9 x0 x6 h64) = (spec_SinceBase.c9 k x0 x6 h64).map spec_SinceBase.e)
  | 0 => ⟨fun _ _ _ => rfl, fun _ _ _ => rfl⟩
  | k + 1 => by
    have ih := spec_SinceBase.ok k
    obtain ⟨i3, i9⟩ := ih
    refine ⟨?_, ?_⟩
    · intro x0 x3 x4; rw [spec_SinceBase.c3]; exact (spec_SinceBase.t3 _ k x0 x3 x4).trans (cd (cd (cd (cd (cd (cd (cd (cd (i3 _ _ _) (i3 _ _ _)) rfl) rfl) rfl) (i3 _ _ _)) rfl) rfl) (i9 _ _ _))
    · intro x0 x6 h64; rw [spec_SinceBase.c9]; exact (spec_SinceBase.t9 _ k x0 x6 h64).trans (cd (cd (cd (cd (cd (i9 _ _ _) rfl) rfl) rfl) rfl) rfl)
set_option maxRecDepth 100000 in
theorem spec_SinceBase.oke (k : Nat) (a0 : List S63) : goF Tryz.f24 spec_SinceBase.ctx spec_SinceBase.sp 0 spec_SinceBase.en (k + 1) [.code (body Tryz.f24)] (startSt [.row 0 .t63 a0] []) = (spec_SinceBase.f k a0).map spec_SinceBase.e := by
  obtain ⟨i3, i9⟩ := spec_SinceBase.ok k
  rw [spec_SinceBase.f]; exact (spec_SinceBase.te _ k a0).trans (i3 _ _ _)
theorem spec_SinceBase.con (k : Nat) (a0 : List S63) (r) (h : spec_SinceBase.f k a0 = some r) : Contract Tryz.prog kit 24 [.row 0 .t63 a0] [] (spec_SinceBase.e r).1 (spec_SinceBase.e r).2.1 (spec_SinceBase.e r).2.2 :=
  con_okG kitOk mix (fun k => CtxOk.nil) (spec_SinceBase.oke k a0) h (by kernel_rfl) (by kernel_rfl) (by kernel_rfl) rfl (by kernel_rfl) rfl rfl
noncomputable def spec_SinceBase.x (k : Nat) : X := fun ins bs κ => match ins, bs with
  | [.row 0 .t63 a0], [] => (spec_SinceBase.f k a0).bind fun r => κ (spec_SinceBase.e r).1 (spec_SinceBase.e r).2.1 (spec_SinceBase.e r).2.2
  | _, _ => none
theorem spec_SinceBase.xok (k : Nat) : XOk 24 (spec_SinceBase.x k) := by
  intro ins bs κ res h
  unfold spec_SinceBase.x at h
  split at h
  · obtain ⟨r, hr, h⟩ := Option.bind_eq_some_iff.1 h
    exact ⟨_, _, _, spec_SinceBase.con k _ r hr, h⟩
  · cases h

/-! ### spec_Gather: function 25 -/
noncomputable def spec_Gather.sp : Nat → Option (Spec Ty) := fun r => bif Nat.beq r 3 then some ⟨[(0, .keep), (3, .own .t3), (4, .keep)], []⟩ else bif Nat.beq r 9 then some ⟨[(0, .keep), (3, .own .t3), (4, .keep), (5, .box [.keep, .keep, .keep, .keep, .keep, .keep]), (6, .own .t3), (7, .keep)], []⟩ else bif Nat.beq r 15 then some ⟨[(0, .keep), (3, .own .t3), (4, .keep), (5, .box [.keep, .keep, .keep, .keep, .keep, .keep]), (6, .own .t3), (8, .keep)], []⟩ else bif Nat.beq r 22 then some ⟨[(0, .keep), (3, .own .t3), (9, .own .t63), (10, .keep)], []⟩ else none
noncomputable def spec_Gather.en : Option (Spec Ty) := some ⟨[(2, .own .t63)], []⟩
noncomputable def spec_Gather.s3 (x0 : List S57) (x4 : Int) (h64 : List Int) : St Ty D := ⟨(Env.put (Env.put (Env.put E (some 0) (.row 0 .t57 x0)) (some 3) (.sl 64 none)) (some 4) (.sc (.int .i64 x4))), Heap.put H0 [(64, some (.rowb .t3 h64 0))], 1000⟩
noncomputable def spec_Gather.s9 (x0 : List S57) (x4 : Int) (x7 : Int) (h64 : List Int) (h65_0 : Int) (h65_1 : Int) (h65_2 : Int) (h65_3 : Int) (h65_4 : Int) (h65_5 : ByteArray) (h66 : List Int) : St Ty D := ⟨(Env.put (Env.put (Env.put (Env.put (Env.put (Env.put E (some 0) (.row 0 .t57 x0)) (some 3) (.sl 64 none)) (some 4) (.sc (.int .i64 x4))) (some 5) (.pt 65 0 0)) (some 6) (.sl 66 none)) (some 7) (.sc (.int .i64 x7))), Heap.put H0 [(64, some (.rowb .t3 h64 0)), (65, some (.box [.sc (.int .i64 h65_0), .sc (.int .i64 h65_1), .sc (.int .i64 h65_2), .sc (.int .i64 h65_3), .sc (.int .i64 h65_4), .sc (.string h65_5)])), (66, some (.rowb .t3 h66 0))], 1000⟩
noncomputable def spec_Gather.s15 (x0 : List S57) (x4 : Int) (x8 : Int) (h64 : List Int) (h65_0 : Int) (h65_1 : Int) (h65_2 : Int) (h65_3 : Int) (h65_4 : Int) (h65_5 : ByteArray) (h66 : List Int) : St Ty D := ⟨(Env.put (Env.put (Env.put (Env.put (Env.put (Env.put E (some 0) (.row 0 .t57 x0)) (some 3) (.sl 64 none)) (some 4) (.sc (.int .i64 x4))) (some 5) (.pt 65 0 0)) (some 6) (.sl 66 none)) (some 8) (.sc (.int .i64 x8))), Heap.put H0 [(64, some (.rowb .t3 h64 0)), (65, some (.box [.sc (.int .i64 h65_0), .sc (.int .i64 h65_1), .sc (.int .i64 h65_2), .sc (.int .i64 h65_3), .sc (.int .i64 h65_4), .sc (.string h65_5)])), (66, some (.rowb .t3 h66 0))], 1000⟩
noncomputable def spec_Gather.s22 (x0 : List S57) (x10 : Int) (h64 : List Int) (h65 : List S63) : St Ty D := ⟨(Env.put (Env.put (Env.put (Env.put E (some 0) (.row 0 .t57 x0)) (some 3) (.sl 64 none)) (some 9) (.sl 65 none)) (some 10) (.sc (.int .i64 x10))), Heap.put H0 [(64, some (.rowb .t3 h64 0)), (65, some (.rowb .t63 h65 0))], 1000⟩
noncomputable def spec_Gather.ctx (k : Nat) : Ctx Ty D := (fun _ _ _ _ => none)
mutual
noncomputable def spec_Gather.c3 : Nat → (List S57) → Int → (List Int) → Option ((List S63))
  | 0, _, _, _ => none
  | k + 1, x0, x4, h64 => (if x4 < (x0.length : Int) then (if 0 ≤ x4 then (if x4 < (x0.length : Int) then (if ((rd_T57 x0 x4).f2.f0) = 2 then (spec_Gather.c9 k x0 x4 0 h64 ((rd_T57 x0 x4).f2.f0) ((rd_T57 x0 x4).f2.f1) ((rd_T57 x0 x4).f2.f2) ((rd_T57 x0 x4).f2.f3) ((rd_T57 x0 x4).f2.f4) ((rd_T57 x0 x4).f2.f5) ([] : List Int)) else (spec_Gather.c3 k x0 (w64 (x4 + 1)) h64)) else none) else none) else (spec_Gather.c22 k x0 0 h64 ([] : List S63)))
noncomputable def spec_Gather.c9 : Nat → (List S57) → Int → Int → (List Int) → Int → Int → Int → Int → Int → ByteArray → (List Int) → Option ((List S63))
  | 0, _, _, _, _, _, _, _, _, _, _, _ => none
  | k + 1, x0, x4, x7, h64, h65_0, h65_1, h65_2, h65_3, h65_4, h65_5, h66 => (if x7 < (h64.length : Int) then (if 0 ≤ x7 then (if x7 < (h64.length : Int) then (if (rd_T3 h64 x7) < h65_2 then (if 0 ≤ x7 then (if x7 < (h64.length : Int) then (if h66.length + ([(rd_T3 h64 x7)] : List Int).length ≤ 17592186044416 then (spec_Gather.c9 k x0 x4 (w64 (x7 + 1)) h64 h65_0 h65_1 h65_2 h65_3 h65_4 h65_5 (h66 ++ ([(rd_T3 h64 x7)] : List Int))) else none) else none) else none) else (spec_Gather.c9 k x0 x4 (w64 (x7 + 1)) h64 h65_0 h65_1 h65_2 h65_3 h65_4 h65_5 h66)) else none) else none) else (if h66.length + ([h65_2] : List Int).length ≤ 17592186044416 then (spec_Gather.c15 k x0 x4 0 h64 h65_0 h65_1 h65_2 h65_3 h65_4 h65_5 (h66 ++ ([h65_2] : List Int))) else none))
noncomputable def spec_Gather.c15 : Nat → (List S57) → Int → Int → (List Int) → Int → Int → Int → Int → Int → ByteArray → (List Int) → Option ((List S63))
  | 0, _, _, _, _, _, _, _, _, _, _, _ => none
  | k + 1, x0, x4, x8, h64, h65_0, h65_1, h65_2, h65_3, h65_4, h65_5, h66 => (if x8 < (h64.length : Int) then (if 0 ≤ x8 then (if x8 < (h64.length : Int) then (if (rd_T3 h64 x8) > h65_2 then (if 0 ≤ x8 then (if x8 < (h64.length : Int) then (if h66.length + ([(rd_T3 h64 x8)] : List Int).length ≤ 17592186044416 then (spec_Gather.c15 k x0 x4 (w64 (x8 + 1)) h64 h65_0 h65_1 h65_2 h65_3 h65_4 h65_5 (h66 ++ ([(rd_T3 h64 x8)] : List Int))) else none) else none) else none) else (spec_Gather.c15 k x0 x4 (w64 (x8 + 1)) h64 h65_0 h65_1 h65_2 h65_3 h65_4 h65_5 h66)) else none) else none) else (spec_Gather.c3 k x0 (w64 (x4 + 1)) h66))
noncomputable def spec_Gather.c22 : Nat → (List S57) → Int → (List Int) → (List S63) → Option ((List S63))
  | 0, _, _, _, _ => none
  | k + 1, x0, x10, h64, h65 => (if x10 < (h64.length : Int) then (if 0 ≤ x10 then (if x10 < (h64.length : Int) then none else none) else none) else (some (h65)))
end
noncomputable def spec_Gather.f (k : Nat) (a0 : List S57) : Option ((List S63)) := (spec_Gather.c3 k a0 0 ([] : List Int))
noncomputable def spec_Gather.e (r : (List S63)) : Res Ty D := (.sl 0 none, [], [.rowb .t63 r 0])
noncomputable abbrev spec_Gather.g (rec : List Item → St Ty D → R) (k : Nat) := go1 Tryz.f25 (spec_Gather.ctx k) spec_Gather.sp 0 spec_Gather.en rec
set_option maxRecDepth 100000 in
theorem spec_Gather.t3 (rec : List Item → St Ty D → R) (k : Nat) (x0 : List S57) (x4 : Int) (h64 : List Int) : spec_Gather.g rec k (td Tryz.f25 3) (spec_Gather.s3 x0 x4 h64) =
  bif decide (x4 < (x0.length : Int)) then bif decide (0 ≤ x4) then bif decide (x4 < (x0.length : Int)) then bif !decide (((rd_T57 x0 x4).f2.f0) = 2) then rec (td Tryz.f25 3) (spec_Gather.s3 x0 (w64 (x4 + 1)) h64) else rec (td Tryz.f25 9) (spec_Gather.s9 x0 x4 0 h64 ((rd_T57 x0 x4).f2.f0) ((rd_T57 x0 x4).f2.f1) ((rd_T57 x0 x4).f2.f2) ((rd_T57 x0 x4).f2.f3) ((rd_T57 x0 x4).f2.f4) ((rd_T57 x0 x4).f2.f5) ([] : List Int)) else none else none else rec (td Tryz.f25 22) (spec_Gather.s22 x0 0 h64 ([] : List S63)) := by kernel_rfl
set_option maxRecDepth 100000 in
theorem spec_Gather.t9 (rec : List Item → St Ty D → R) (k : Nat) (x0 : List S57) (x4 : Int) (x7 : Int) (h64 : List Int) (h65_0 : Int) (h65_1 : Int) (h65_2 : Int) (h65_3 : Int) (h65_4 : Int) (h65_5 : ByteArray) (h66 : List Int) : spec_Gather.g rec k (td Tryz.f25 9) (spec_Gather.s9 x0 x4 x7 h64 h65_0 h65_1 h65_2 h65_3 h65_4 h65_5 h66) =
  bif decide (x7 < (h64.length : Int)) then bif decide (0 ≤ x7) then bif decide (x7 < (h64.length : Int)) then bif decide ((rd_T3 h64 x7) < h65_2) then bif decide (0 ≤ x7) then bif decide (x7 < (h64.length : Int)) then bif decide (h66.length + ([(rd_T3 h64 x7)] : List Int).length ≤ 17592186044416) then rec (td Tryz.f25 9) (spec_Gather.s9 x0 x4 (w64 (x7 + 1)) h64 h65_0 h65_1 h65_2 h65_3 h65_4 h65_5 (h66 ++ ([(rd_T3 h64 x7)] : List Int))) else none else none else none else rec (td Tryz.f25 9) (spec_Gather.s9 x0 x4 (w64 (x7 + 1)) h64 h65_0 h65_1 h65_2 h65_3 h65_4 h65_5 h66) else none else none else bif decide (h66.length + ([h65_2] : List Int).length ≤ 17592186044416) then rec (td Tryz.f25 15) (spec_Gather.s15 x0 x4 0 h64 h65_0 h65_1 h65_2 h65_3 h65_4 h65_5 (h66 ++ ([h65_2] : List Int))) else none := by kernel_rfl
set_option maxRecDepth 100000 in
theorem spec_Gather.t15 (rec : List Item → St Ty D → R) (k : Nat) (x0 : List S57) (x4 : Int) (x8 : Int) (h64 : List Int) (h65_0 : Int) (h65_1 : Int) (h65_2 : Int) (h65_3 : Int) (h65_4 : Int) (h65_5 : ByteArray) (h66 : List Int) : spec_Gather.g rec k (td Tryz.f25 15) (spec_Gather.s15 x0 x4 x8 h64 h65_0 h65_1 h65_2 h65_3 h65_4 h65_5 h66) =
  bif decide (x8 < (h64.length : Int)) then bif decide (0 ≤ x8) then bif decide (x8 < (h64.length : Int)) then bif decide ((rd_T3 h64 x8) > h65_2) then bif decide (0 ≤ x8) then bif decide (x8 < (h64.length : Int)) then bif decide (h66.length + ([(rd_T3 h64 x8)] : List Int).length ≤ 17592186044416) then rec (td Tryz.f25 15) (spec_Gather.s15 x0 x4 (w64 (x8 + 1)) h64 h65_0 h65_1 h65_2 h65_3 h65_4 h65_5 (h66 ++ ([(rd_T3 h64 x8)] : List Int))) else none else none else none else rec (td Tryz.f25 15) (spec_Gather.s15 x0 x4 (w64 (x8 + 1)) h64 h65_0 h65_1 h65_2 h65_3 h65_4 h65_5 h66) else none else none else rec (td Tryz.f25 3) (spec_Gather.s3 x0 (w64 (x4 + 1)) h66) := by kernel_rfl
set_option maxRecDepth 100000 in
theorem spec_Gather.t22 (rec : List Item → St Ty D → R) (k : Nat) (x0 : List S57) (x10 : Int) (h64 : List Int) (h65 : List S63) : spec_Gather.g rec k (td Tryz.f25 22) (spec_Gather.s22 x0 x10 h64 h65) =
  bif decide (x10 < (h64.length : Int)) then bif decide (0 ≤ x10) then bif decide (x10 < (h64.length : Int)) then none else none else none else some (spec_Gather.e (h65)) := by kernel_rfl
set_option maxRecDepth 100000 in
theorem spec_Gather.te (rec : List Item → St Ty D → R) (k : Nat) (a0 : List S57) : spec_Gather.g rec k [.code (body Tryz.f25)] (startSt [.row 0 .t57 a0] []) =
  rec (td Tryz.f25 3) (spec_Gather.s3 a0 0 ([] : List Int)) := by kernel_rfl
set_option maxRecDepth 100000 in
theorem spec_Gather.ok : ∀ k : Nat, (∀ (x0 : List S57) (x4 : Int) (h64 : List Int), goF Tryz.f25 spec_Gather.ctx spec_Gather.sp 0 spec_Gather.en k (td Tryz.f25 3) (spec_Gather.s3 x0 x4 h64) = (spec_Gather.c3 k x0 x4 h64).map spec_Gather.e) ∧ (∀ (x0 : List S57) (x4 : Int) (x7 : Int) (h64 : List Int) (h65_0 : Int) (h65_1 : Int) (h65_2 : Int) (h65_3 : Int) (h65_4 : Int) (h65_5 : ByteArray) (h66 : List Int), goF Tryz.f25 spec_Gather.ctx spec_Gather.sp 0 spec_Gather.en k (td Tryz.f25 9) (spec_Gather.s9 x0 x4 x7 h64 h65_0 h65_1 h65_2 h65_3 h65_4 h65_5 h66) = (spec_Gather.c9 k x0 x4 x7 h64 h65_0 h65_1 h65_2 h65_3 h65_4 h65_5 h66).map spec_Gather.e) ∧ (∀ (x0 : List S57) (x4 : Int) (x8 : Int) (h64 : List Int) (h65_0 : Int) (h65_1 : Int) (h65_2 : Int) (h65_3 : Int) (h65_4 : Int) (h65_5 : ByteArray) (h66 : List Int), goF Tryz.f25 spec_Gather.ctx spec_Gather.sp 0 spec_Gather.en k (td Tryz.f25 15) (spec_Gather.s15 x0 x4 x8 h64 h65_0 h65_1 h65_2 h65_3 h65_4 h65_5 h66) = (spec_Gather.c15 k x0 x4 x8 h64 h65_0 h65_1 h65_2 h65_3 h65_4 h65_5 h66).map spec_Gather.e) ∧ (∀ (x0 : List S57) (x10 : Int) (h64 : List Int) (h65 : List S63), goF Tryz.f25 spec_Gather.ctx spec_Gather.sp 0 spec_Gather.en k (td Tryz.f25 22) (spec_Gather.s22 x0 x10 h64 h65) = (spec_Gather.c22 k x0 x10 h64 h65).map spec_Gather.e)
  | 0 => ⟨fun _ _ _ => rfl, fun _ _ _ _ _ _ _ _ _ _ _ => rfl, fun _ _ _ _ _ _ _ _ _ _ _ => rfl, fun _ _ _ _ => rfl⟩
  | k + 1 => by
    have ih := spec_Gather.ok k
    obtain ⟨i3, i9, i15, i22⟩ := ih
    refine ⟨?_, ?_, ?_, ?_⟩
    · intro x0 x4 h64; rw [spec_Gather.c3]; exact (spec_Gather.t3 _ k x0 x4 h64).trans (cd (cd (cd (nd (i3 _ _ _) (i9 _ _ _ _ _ _ _ _ _ _ _)) rfl) rfl) (i22 _ _ _ _))
    · intro x0 x4 x7 h64 h65_0 h65_1 h65_2 h65_3 h65_4 h65_5 h66; rw [spec_Gather.c9]; exact (spec_Gather.t9 _ k x0 x4 x7 h64 h65_0 h65_1 h65_2 h65_3 h65_4 h65_5 h66).trans (cd (cd (cd (cd (cd (cd (cd (i9 _ _ _ _ _ _ _ _ _ _ _) rfl) rfl) rfl) (i9 _ _ _ _ _ _ _ _ _ _ _)) rfl) rfl) (cd (i15 _ _ _ _ _ _ _ _ _ _ _) rfl))
    · intro x0 x4 x8 h64 h65_0 h65_1 h65_2 h65_3 h65_4 h65_5 h66; rw [spec_Gather.c15]; exact (spec_Gather.t15 _ k x0 x4 x8 h64 h65_0 h65_1 h65_2 h65_3 h65_4 h65_5 h66).trans (cd (cd (cd (cd (cd (cd (cd (i15 _ _ _ _ _ _ _ _ _ _ _) rfl) rfl) rfl) (i15 _ _ _ _ _ _ _ _ _ _ _)) rfl) rfl) (i3 _ _ _))
    · intro x0 x10 h64 h65; rw [spec_Gather.c22]; exact (spec_Gather.t22 _ k x0 x10 h64 h65).trans (cd (cd (cd rfl rfl) rfl) rfl)
set_option maxRecDepth 100000 in
theorem spec_Gather.oke (k : Nat) (a0 : List S57) : goF Tryz.f25 spec_Gather.ctx spec_Gather.sp 0 spec_Gather.en (k + 1) [.code (body Tryz.f25)] (startSt [.row 0 .t57 a0] []) = (spec_Gather.f k a0).map spec_Gather.e := by
  obtain ⟨i3, i9, i15, i22⟩ := spec_Gather.ok k
  rw [spec_Gather.f]; exact (spec_Gather.te _ k a0).trans (i3 _ _ _)
theorem spec_Gather.con (k : Nat) (a0 : List S57) (r) (h : spec_Gather.f k a0 = some r) : Contract Tryz.prog kit 25 [.row 0 .t57 a0] [] (spec_Gather.e r).1 (spec_Gather.e r).2.1 (spec_Gather.e r).2.2 :=
  con_okG kitOk mix (fun k => CtxOk.nil) (spec_Gather.oke k a0) h (by kernel_rfl) (by kernel_rfl) (by kernel_rfl) rfl (by kernel_rfl) rfl rfl
noncomputable def spec_Gather.x (k : Nat) : X := fun ins bs κ => match ins, bs with
  | [.row 0 .t57 a0], [] => (spec_Gather.f k a0).bind fun r => κ (spec_Gather.e r).1 (spec_Gather.e r).2.1 (spec_Gather.e r).2.2
  | _, _ => none
theorem spec_Gather.xok (k : Nat) : XOk 25 (spec_Gather.x k) := by
  intro ins bs κ res h
  unfold spec_Gather.x at h
  split at h
  · obtain ⟨r, hr, h⟩ := Option.bind_eq_some_iff.1 h
    exact ⟨_, _, _, spec_Gather.con k _ r hr, h⟩
  · cases h

/-! ### spec_MountAll: function 10 -/
noncomputable def spec_MountAll.sp : Nat → Option (Spec Ty) := fun r => bif Nat.beq r 6 then some ⟨[(2, .box [.own .t48, .own .t96, .own .t132, .keep, .keep, .keep, .keep]), (4, .own .t57), (5, .box [.own .t48, .own .t96, .own .t132, .keep, .keep, .keep, .keep]), (6, .keep)], []⟩ else bif Nat.beq r 14 then some ⟨[(2, .box [.own .t48, .own .t96, .own .t132, .keep, .keep, .keep, .keep]), (5, .box [.own .t48, .own .t96, .own .t132, .keep, .keep, .keep, .keep]), (7, .own .t63), (8, .keep)], []⟩ else none
noncomputable def spec_MountAll.en : Option (Spec Ty) := some ⟨[(2, .box [.own .t48, .own .t96, .own .t132, .keep, .keep, .keep, .keep]), (3, .keep)], []⟩
noncomputable def spec_MountAll.s6 (x6 : Int) (h65 : List S48) (h66 : List S96) (h67 : List S132) (h64_3 : Int) (h64_4 : Int) (h64_5 : Int) (h64_6 : Int) (h68 : List S57) (h70 : List S48) (h71 : List S96) (h72 : List S132) (h69_3 : Int) (h69_4 : Int) (h69_5 : Int) (h69_6 : Int) : St Ty D := ⟨(Env.put (Env.put (Env.put (Env.put E (some 2) (.pt 64 0 0)) (some 4) (.sl 68 none)) (some 5) (.pt 69 0 0)) (some 6) (.sc (.int .i64 x6))), Heap.put H0 [(65, some (.rowb .t48 h65 0)), (66, some (.rowb .t96 h66 0)), (67, some (.rowb .t132 h67 0)), (64, some (.box [.sl 65 none, .sl 66 none, .sl 67 none, .sc (.int .i64 h64_3), .sc (.int .i64 h64_4), .sc (.int .i64 h64_5), .sc (.int .i64 h64_6)])), (68, some (.rowb .t57 h68 0)), (70, some (.rowb .t48 h70 0)), (71, some (.rowb .t96 h71 0)), (72, some (.rowb .t132 h72 0)), (69, some (.box [.sl 70 none, .sl 71 none, .sl 72 none, .sc (.int .i64 h69_3), .sc (.int .i64 h69_4), .sc (.int .i64 h69_5), .sc (.int .i64 h69_6)]))], 1000⟩
noncomputable def spec_MountAll.s14 (x8 : Int) (h65 : List S48) (h66 : List S96) (h67 : List S132) (h64_3 : Int) (h64_4 : Int) (h64_5 : Int) (h64_6 : Int) (h69 : List S48) (h70 : List S96) (h71 : List S132) (h68_3 : Int) (h68_4 : Int) (h68_5 : Int) (h68_6 : Int) (h72 : List S63) : St Ty D := ⟨(Env.put (Env.put (Env.put (Env.put E (some 2) (.pt 64 0 0)) (some 5) (.pt 68 0 0)) (some 7) (.sl 72 none)) (some 8) (.sc (.int .i64 x8))), Heap.put H0 [(65, some (.rowb .t48 h65 0)), (66, some (.rowb .t96 h66 0)), (67, some (.rowb .t132 h67 0)), (64, some (.box [.sl 65 none, .sl 66 none, .sl 67 none, .sc (.int .i64 h64_3), .sc (.int .i64 h64_4), .sc (.int .i64 h64_5), .sc (.int .i64 h64_6)])), (69, some (.rowb .t48 h69 0)), (70, some (.rowb .t96 h70 0)), (71, some (.rowb .t132 h71 0)), (68, some (.box [.sl 69 none, .sl 70 none, .sl 71 none, .sc (.int .i64 h68_3), .sc (.int .i64 h68_4), .sc (.int .i64 h68_5), .sc (.int .i64 h68_6)])), (72, some (.rowb .t63 h72 0))], 1000⟩
noncomputable def spec_MountAll.ctx (k : Nat) : Ctx Ty D := (cons 20 (spec_FlashOk.x k) (cons 21 (spec_ScanAll.x k) (cons 22 (spec_l05Copy.x k) (cons 23 (spec_StoreNew.x k) (cons 24 (spec_SinceBase.x k) (cons 25 (spec_Gather.x k) (fun _ _ _ _ => none)))))))
mutual
noncomputable def spec_MountAll.c6 : Nat → Int → (List S48) → (List S96) → (List S132) → Int → Int → Int → Int → (List S57) → (List S48) → (List S96) → (List S132) → Int → Int → Int → Int → Option ((List S48) × (List S96) × (List S132) × Int × Int × Int × Int × Bool)
  | 0, _, _, _, _, _, _, _, _, _, _, _, _, _, _, _, _ => none
  | k + 1, x6, h65, h66, h67, h64_3, h64_4, h64_5, h64_6, h68, h70, h71, h72, h69_3, h69_4, h69_5, h69_6 => (if x6 < (h68.length : Int) then (if 0 ≤ x6 then (if x6 < (h68.length : Int) then (if ((rd_T57 h68 x6).f2.f1) ≥ h69_4 then (if 0 ≤ x6 then (if x6 < (h68.length : Int) then (if 0 ≤ x6 then (if x6 < (h68.length : Int) then (if ((rd_T57 h68 x6).f2.f0) = 2 then (if 0 ≤ x6 then (if x6 < (h68.length : Int) then (if ((rd_T57 h68 x6).f2.f2) ≥ h69_5 then (if 0 ≤ x6 then (if x6 < (h68.length : Int) then (spec_MountAll.c6 k (w64 (x6 + 1)) h65 h66 h67 h64_3 h64_4 h64_5 h64_6 h68 h70 h71 h72 h69_3 (w64 (((rd_T57 h68 x6).f2.f1) + 1)) (w64 (((rd_T57 h68 x6).f2.f2) + 1)) h69_6) else none) else none) else (spec_MountAll.c6 k (w64 (x6 + 1)) h65 h66 h67 h64_3 h64_4 h64_5 h64_6 h68 h70 h71 h72 h69_3 (w64 (((rd_T57 h68 x6).f2.f1) + 1)) h69_5 h69_6)) else none) else none) else (spec_MountAll.c6 k (w64 (x6 + 1)) h65 h66 h67 h64_3 h64_4 h64_5 h64_6 h68 h70 h71 h72 h69_3 (w64 (((rd_T57 h68 x6).f2.f1) + 1)) h69_5 h69_6)) else none) else none) else none) else none) else (if 0 ≤ x6 then (if x6 < (h68.length : Int) then (if ((rd_T57 h68 x6).f2.f0) = 2 then (if 0 ≤ x6 then (if x6 < (h68.length : Int) then (if ((rd_T57 h68 x6).f2.f2) ≥ h69_5 then (if 0 ≤ x6 then (if x6 < (h68.length : Int) then (spec_MountAll.c6 k (w64 (x6 + 1)) h65 h66 h67 h64_3 h64_4 h64_5 h64_6 h68 h70 h71 h72 h69_3 h69_4 (w64 (((rd_T57 h68 x6).f2.f2) + 1)) h69_6) else none) else none) else (spec_MountAll.c6 k (w64 (x6 + 1)) h65 h66 h67 h64_3 h64_4 h64_5 h64_6 h68 h70 h71 h72 h69_3 h69_4 h69_5 h69_6)) else none) else none) else (spec_MountAll.c6 k (w64 (x6 + 1)) h65 h66 h67 h64_3 h64_4 h64_5 h64_6 h68 h70 h71 h72 h69_3 h69_4 h69_5 h69_6)) else none) else none)) else none) else none) else ((spec_Gather.f k h68).bind fun t5 => ((spec_SinceBase.f k t5).bind fun t6 => (spec_MountAll.c14 k 0 h65 h66 h67 h64_3 h64_4 h64_5 h64_6 h70 h71 h72 h69_3 h69_4 h69_5 h69_6 t6))))
noncomputable def spec_MountAll.c14 : Nat → Int → (List S48) → (List S96) → (List S132) → Int → Int → Int → Int → (List S48) → (List S96) → (List S132) → Int → Int → Int → Int → (List S63) → Option ((List S48) × (List S96) × (List S132) × Int × Int × Int × Int × Bool)
  | 0, _, _, _, _, _, _, _, _, _, _, _, _, _, _, _, _ => none
  | k + 1, x8, h65, h66, h67, h64_3, h64_4, h64_5, h64_6, h69, h70, h71, h68_3, h68_4, h68_5, h68_6, h72 => (if x8 < (h72.length : Int) then (if x8 = 0 then (if 0 ≤ x8 then (if x8 < (h72.length : Int) then (if 0 ≤ x8 then (if x8 < (h72.length : Int) then none else none) else none) else none) else none) else (if 0 ≤ x8 then (if x8 < (h72.length : Int) then none else none) else none)) else (some (h69, h70, h71, h68_3, h68_4, h68_5, h68_6, true)))
end
noncomputable def spec_MountAll.f (k : Nat) (a0_0 : List S48) : Option ((List S48) × (List S96) × (List S132) × Int × Int × Int × Int × Bool) := ((spec_FlashOk.f k a0_0).bind fun t1 => (if t1 = true then ((spec_ScanAll.f k a0_0).bind fun t2 => ((spec_l05Copy.f k a0_0).bind fun t3 => ((spec_StoreNew.f k).bind fun t4 => (spec_MountAll.c6 k 0 ([] : List S48) ([] : List S96) ([] : List S132) 0 0 0 0 t2 t3 t4.1 t4.2.1 t4.2.2 1 1 0)))) else (some (([] : List S48), ([] : List S96), ([] : List S132), 0, 0, 0, 0, false))))
noncomputable def spec_MountAll.e (r : (List S48) × (List S96) × (List S132) × Int × Int × Int × Int × Bool) : Res Ty D := (.tu [.ag [.sl 0 none, .sl 1 none, .sl 2 none, .sc (.int .i64 r.2.2.2.1), .sc (.int .i64 r.2.2.2.2.1), .sc (.int .i64 r.2.2.2.2.2.1), .sc (.int .i64 r.2.2.2.2.2.2.1)], .sc (.bool r.2.2.2.2.2.2.2)], [], [.rowb .t48 r.1 0, .rowb .t96 r.2.1 0, .rowb .t132 r.2.2.1 0])
noncomputable abbrev spec_MountAll.g (rec : List Item → St Ty D → R) (k : Nat) := go1 Tryz.f10 (spec_MountAll.ctx k) spec_MountAll.sp 0 spec_MountAll.en rec
set_option maxRecDepth 100000 in
theorem spec_MountAll.t6 (rec : List Item → St Ty D → R) (k : Nat) (x6 : Int) (h65 : List S48) (h66 : List S96) (h67 : List S132) (h64_3 : Int) (h64_4 : Int) (h64_5 : Int) (h64_6 : Int) (h68 : List S57) (h70 : List S48) (h71 : List S96) (h72 : List S132) (h69_3 : Int) (h69_4 : Int) (h69_5 : Int) (h69_6 : Int) : spec_MountAll.g rec k (td Tryz.f10 6) (spec_MountAll.s6 x6 h65 h66 h67 h64_3 h64_4 h64_5 h64_6 h68 h70 h71 h72 h69_3 h69_4 h69_5 h69_6) =
  bif decide (x6 < (h68.length : Int)) then bif decide (0 ≤ x6) then bif decide (x6 < (h68.length : Int)) then bif decide (((rd_T57 h68 x6).f2.f1) ≥ h69_4) then bif decide (0 ≤ x6) then bif decide (x6 < (h68.length : Int)) then bif decide (0 ≤ x6) then bif decide (x6 < (h68.length : Int)) then bif decide (((rd_T57 h68 x6).f2.f0) = 2) then bif decide (0 ≤ x6) then bif decide (x6 < (h68.length : Int)) then bif decide (((rd_T57 h68 x6).f2.f2) ≥ h69_5) then bif decide (0 ≤ x6) then bif decide (x6 < (h68.length : Int)) then rec (td Tryz.f10 6) (spec_MountAll.s6 (w64 (x6 + 1)) h65 h66 h67 h64_3 h64_4 h64_5 h64_6 h68 h70 h71 h72 h69_3 (w64 (((rd_T57 h68 x6).f2.f1) + 1)) (w64 (((rd_T57 h68 x6).f2.f2) + 1)) h69_6) else none else none else rec (td Tryz.f10 6) (spec_MountAll.s6 (w64 (x6 + 1)) h65 h66 h67 h64_3 h64_4 h64_5 h64_6 h68 h70 h71 h72 h69_3 (w64 (((rd_T57 h68 x6).f2.f1) + 1)) h69_5 h69_6) else none else none else rec (td Tryz.f10 6) (spec_MountAll.s6 (w64 (x6 + 1)) h65 h66 h67 h64_3 h64_4 h64_5 h64_6 h68 h70 h71 h72 h69_3 (w64 (((rd_T57 h68 x6).f2.f1) + 1)) h69_5 h69_6) else none else none else none else none else bif decide (0 ≤ x6) then bif decide (x6 < (h68.length : Int)) then bif decide (((rd_T57 h68 x6).f2.f0) = 2) then bif decide (0 ≤ x6) then bif decide (x6 < (h68.length : Int)) then bif decide (((rd_T57 h68 x6).f2.f2) ≥ h69_5) then bif decide (0 ≤ x6) then bif decide (x6 < (h68.length : Int)) then rec (td Tryz.f10 6) (spec_MountAll.s6 (w64 (x6 + 1)) h65 h66 h67 h64_3 h64_4 h64_5 h64_6 h68 h70 h71 h72 h69_3 h69_4 (w64 (((rd_T57 h68 x6).f2.f2) + 1)) h69_6) else none else none else rec (td Tryz.f10 6) (spec_MountAll.s6 (w64 (x6 + 1)) h65 h66 h67 h64_3 h64_4 h64_5 h64_6 h68 h70 h71 h72 h69_3 h69_4 h69_5 h69_6) else none else none else rec (td Tryz.f10 6) (spec_MountAll.s6 (w64 (x6 + 1)) h65 h66 h67 h64_3 h64_4 h64_5 h64_6 h68 h70 h71 h72 h69_3 h69_4 h69_5 h69_6) else none else none else none else none else (spec_Gather.f k h68).bind fun t5 => (spec_SinceBase.f k t5).bind fun t6 => rec (td Tryz.f10 14) (spec_MountAll.s14 0 h65 h66 h67 h64_3 h64_4 h64_5 h64_6 h70 h71 h72 h69_3 h69_4 h69_5 h69_6 t6) := by kernel_rfl
set_option maxRecDepth 100000 in
theorem spec_MountAll.t14 (rec : List Item → St Ty D → R) (k : Nat) (x8 : Int) (h65 : List S48) (h66 : List S96) (h67 : List S132) (h64_3 : Int) (h64_4 : Int) (h64_5 : Int) (h64_6 : Int) (h69 : List S48) (h70 : List S96) (h71 : List S132) (h68_3 : Int) (h68_4 : Int) (h68_5 : Int) (h68_6 : Int) (h72 : List S63) : spec_MountAll.g rec k (td Tryz.f10 14) (spec_MountAll.s14 x8 h65 h66 h67 h64_3 h64_4 h64_5 h64_6 h69 h70 h71 h68_3 h68_4 h68_5 h68_6 h72) =
  bif decide (x8 < (h72.length : Int)) then bif decide (x8 = 0) then bif decide (0 ≤ x8) then bif decide (x8 < (h72.length : Int)) then bif decide (0 ≤ x8) then bif decide (x8 < (h72.length : Int)) then none else none else none else none else none else bif decide (0 ≤ x8) then bif decide (x8 < (h72.length : Int)) then none else none else none else some (spec_MountAll.e (h69, h70, h71, h68_3, h68_4, h68_5, h68_6, true)) := by kernel_rfl
set_option maxRecDepth 100000 in
theorem spec_MountAll.te (rec : List Item → St Ty D → R) (k : Nat) (a0_0 : List S48) : spec_MountAll.g rec k [.code (body Tryz.f10)] (startSt [.ag [.row 0 .t48 a0_0]] []) =
  (spec_FlashOk.f k a0_0).bind fun t1 => bif !t1 then some (spec_MountAll.e (([] : List S48), ([] : List S96), ([] : List S132), 0, 0, 0, 0, false)) else (spec_ScanAll.f k a0_0).bind fun t2 => (spec_l05Copy.f k a0_0).bind fun t3 => (spec_StoreNew.f k).bind fun t4 => rec (td Tryz.f10 6) (spec_MountAll.s6 0 ([] : List S48) ([] : List S96) ([] : List S132) 0 0 0 0 t2 t3 t4.1 t4.2.1 t4.2.2 1 1 0) := by kernel_rfl
set_option maxRecDepth 100000 in
theorem spec_MountAll.ok : ∀ k : Nat, (∀ (x6 : Int) (h65 : List S48) (h66 : List S96) (h67 : List S132) (h64_3 : Int) (h64_4 : Int) (h64_5 : Int) (h64_6 : Int) (h68 : List S57) (h70 : List S48) (h71 : List S96) (h72 : List S132) (h69_3 : Int) (h69_4 : Int) (h69_5 : Int) (h69_6 : Int), goF Tryz.f10 spec_MountAll.ctx spec_MountAll.sp 0 spec_MountAll.en k (td Tryz.f10 6) (spec_MountAll.s6 x6 h65 h66 h67 h64_3 h64_4 h64_5 h64_6 h68 h70 h71 h72 h69_3 h69_4 h69_5 h69_6) = (spec_MountAll.c6 k x6 h65 h66 h67 h64_3 h64_4 h64_5 h64_6 h68 h70 h71 h72 h69_3 h69_4 h69_5 h69_6).map spec_MountAll.e) ∧ (∀ (x8 : Int) (h65 : List S48) (h66 : List S96) (h67 : List S132) (h64_3 : Int) (h64_4 : Int) (h64_5 : Int) (h64_6 : Int) (h69 : List S48) (h70 : List S96) (h71 : List S132) (h68_3 : Int) (h68_4 : Int) (h68_5 : Int) (h68_6 : Int) (h72 : List S63), goF Tryz.f10 spec_MountAll.ctx spec_MountAll.sp 0 spec_MountAll.en k (td Tryz.f10 14) (spec_MountAll.s14 x8 h65 h66 h67 h64_3 h64_4 h64_5 h64_6 h69 h70 h71 h68_3 h68_4 h68_5 h68_6 h72) = (spec_MountAll.c14 k x8 h65 h66 h67 h64_3 h64_4 h64_5 h64_6 h69 h70 h71 h68_3 h68_4 h68_5 h68_6 h72).map spec_MountAll.e)
  | 0 => ⟨fun _ _ _ _ _ _ _ _ _ _ _ _ _ _ _ _ => rfl, fun _ _ _ _ _ _ _ _ _ _ _ _ _ _ _ _ => rfl⟩
  | k + 1 => by
    have ih := spec_MountAll.ok k
    obtain ⟨i6, i14⟩ := ih
    refine ⟨?_, ?_⟩
    · intro x6 h65 h66 h67 h64_3 h64_4 h64_5 h64_6 h68 h70 h71 h72 h69_3 h69_4 h69_5 h69_6; rw [spec_MountAll.c6]; exact (spec_MountAll.t6 _ k x6 h65 h66 h67 h64_3 h64_4 h64_5 h64_6 h68 h70 h71 h72 h69_3 h69_4 h69_5 h69_6).trans (cd (cd (cd (cd (cd (cd (cd (cd (cd (cd (cd (cd (cd (cd (i6 _ _ _ _ _ _ _ _ _ _ _ _ _ _ _ _) rfl) rfl) (i6 _ _ _ _ _ _ _ _ _ _ _ _ _ _ _ _)) rfl) rfl) (i6 _ _ _ _ _ _ _ _ _ _ _ _ _ _ _ _)) rfl) rfl) rfl) rfl) (cd (cd (cd (cd (cd (cd (cd (cd (i6 _ _ _ _ _ _ _ _ _ _ _ _ _ _ _ _) rfl) rfl) (i6 _ _ _ _ _ _ _ _ _ _ _ _ _ _ _ _)) rfl) rfl) (i6 _ _ _ _ _ _ _ _ _ _ _ _ _ _ _ _)) rfl) rfl)) rfl) rfl) (bn (fun t5 => (bn (fun t6 => (i14 _ _ _ _ _ _ _ _ _ _ _ _ _ _ _ _))))))
    · intro x8 h65 h66 h67 h64_3 h64_4 h64_5 h64_6 h69 h70 h71 h68_3 h68_4 h68_5 h68_6 h72; rw [spec_MountAll.c14]; exact (spec_MountAll.t14 _ k x8 h65 h66 h67 h64_3 h64_4 h64_5 h64_6 h69 h70 h71 h68_3 h68_4 h68_5 h68_6 h72).trans (cd (cd (cd (cd (cd (cd rfl rfl) rfl) rfl) rfl) (cd (cd rfl rfl) rfl)) rfl)
set_option maxRecDepth 100000 in
theorem spec_MountAll.oke (k : Nat) (a0_0 : List S48) : goF Tryz.f10 spec_MountAll.ctx spec_MountAll.sp 0 spec_MountAll.en (k + 1) [.code (body Tryz.f10)] (startSt [.ag [.row 0 .t48 a0_0]] []) = (spec_MountAll.f k a0_0).map spec_MountAll.e := by
  obtain ⟨i6, i14⟩ := spec_MountAll.ok k
  rw [spec_MountAll.f]; exact (spec_MountAll.te _ k a0_0).trans (bn (fun t1 => (nb rfl (bn (fun t2 => (bn (fun t3 => (bn (fun t4 => (i6 _ _ _ _ _ _ _ _ _ _ _ _ _ _ _ _))))))))))
theorem spec_MountAll.con (k : Nat) (a0_0 : List S48) (r) (h : spec_MountAll.f k a0_0 = some r) : Contract Tryz.prog kit 10 [.ag [.row 0 .t48 a0_0]] [] (spec_MountAll.e r).1 (spec_MountAll.e r).2.1 (spec_MountAll.e r).2.2 :=
  con_okG kitOk mix (fun k => (CtxOk.cons (spec_FlashOk.xok k) (CtxOk.cons (spec_ScanAll.xok k) (CtxOk.cons (spec_l05Copy.xok k) (CtxOk.cons (spec_StoreNew.xok k) (CtxOk.cons (spec_SinceBase.xok k) (CtxOk.cons (spec_Gather.xok k) CtxOk.nil))))))) (spec_MountAll.oke k a0_0) h (by kernel_rfl) (by kernel_rfl) (by kernel_rfl) rfl (by kernel_rfl) rfl rfl
noncomputable def spec_MountAll.x (k : Nat) : X := fun ins bs κ => match ins, bs with
  | [.ag [.row 0 .t48 a0_0]], [] => (spec_MountAll.f k a0_0).bind fun r => κ (spec_MountAll.e r).1 (spec_MountAll.e r).2.1 (spec_MountAll.e r).2.2
  | _, _ => none
theorem spec_MountAll.xok (k : Nat) : XOk 10 (spec_MountAll.x k) := by
  intro ins bs κ res h
  unfold spec_MountAll.x at h
  split at h
  · obtain ⟨r, hr, h⟩ := Option.bind_eq_some_iff.1 h
    exact ⟨_, _, _, spec_MountAll.con k _ r hr, h⟩
  · cases h
end Go.Proofs.YtmboeckendhdnaaGreat.M2

/- Plain runs of functions: each is a plain Lean function, and keeps its contract. Written by a program of this session. -/
namespace Go.Proofs.YtmboeckendhdnaaGreat.M2
open Go Go.Proofs.YtmboeckendhdnaaGreat.PK
set_option linter.unusedVariables false
set_option linter.unusedSimpArgs false
set_option maxHeartbeats 4000000
/-! ### spec_DeviceNew: function 4 -/
noncomputable def spec_DeviceNew.sp : Nat → Option (Spec Ty) := fun r => none
noncomputable def spec_DeviceNew.en : Option (Spec Ty) := some ⟨[(2, .box [.own .t48, .own .t96, .own .t132, .keep, .keep, .keep, .keep]), (3, .keep)], []⟩
noncomputable def spec_DeviceNew.ctx (k : Nat) : Ctx Ty D := (cons 9 (spec_FlashNew.x k) (cons 10 (spec_MountAll.x k) (fun _ _ _ _ => none)))
noncomputable def spec_DeviceNew.f (k : Nat) (a0 : Int) : Option ((List S48) × (List S96) × (List S132) × Int × Int × Int × Int × Bool) := ((spec_FlashNew.f k a0).bind fun t1 => (if t1.2 = true then ((spec_MountAll.f k t1.1).bind fun t2 => (some (t2.1, t2.2.1, t2.2.2.1, t2.2.2.2.1, t2.2.2.2.2.1, t2.2.2.2.2.2.1, t2.2.2.2.2.2.2.1, t2.2.2.2.2.2.2.2))) else (some (([] : List S48), ([] : List S96), ([] : List S132), 0, 0, 0, 0, false))))
noncomputable def spec_DeviceNew.e (r : (List S48) × (List S96) × (List S132) × Int × Int × Int × Int × Bool) : Res Ty D := (.tu [.ag [.sl 0 none, .sl 1 none, .sl 2 none, .sc (.int .i64 r.2.2.2.1), .sc (.int .i64 r.2.2.2.2.1), .sc (.int .i64 r.2.2.2.2.2.1), .sc (.int .i64 r.2.2.2.2.2.2.1)], .sc (.bool r.2.2.2.2.2.2.2)], [], [.rowb .t48 r.1 0, .rowb .t96 r.2.1 0, .rowb .t132 r.2.2.1 0])
noncomputable abbrev spec_DeviceNew.g (rec : List Item → St Ty D → R) (k : Nat) := go1 Tryz.f4 (spec_DeviceNew.ctx k) spec_DeviceNew.sp 0 spec_DeviceNew.en rec
set_option maxRecDepth 100000 in
theorem spec_DeviceNew.te (rec : List Item → St Ty D → R) (k : Nat) (a0 : Int) : spec_DeviceNew.g rec k [.code (body Tryz.f4)] (startSt [.sc (.int .i64 a0)] []) =
  (spec_FlashNew.f k a0).bind fun t1 => bif !t1.2 then some (spec_DeviceNew.e (([] : List S48), ([] : List S96), ([] : List S132), 0, 0, 0, 0, false)) else (spec_MountAll.f k t1.1).bind fun t2 => some (spec_DeviceNew.e (t2.1, t2.2.1, t2.2.2.1, t2.2.2.2.1, t2.2.2.2.2.1, t2.2.2.2.2.2.1, t2.2.2.2.2.2.2.1, t2.2.2.2.2.2.2.2)) := by kernel_rfl
set_option maxRecDepth 100000 in
theorem spec_DeviceNew.oke (k : Nat) (a0 : Int) : goF Tryz.f4 spec_DeviceNew.ctx spec_DeviceNew.sp 0 spec_DeviceNew.en (k + 1) [.code (body Tryz.f4)] (startSt [.sc (.int .i64 a0)] []) = (spec_DeviceNew.f k a0).map spec_DeviceNew.e := by
  rw [spec_DeviceNew.f]; exact (spec_DeviceNew.te _ k a0).trans (bn (fun t1 => (nb rfl (bn (fun t2 => rfl)))))
theorem spec_DeviceNew.con (k : Nat) (a0 : Int) (r) (h : spec_DeviceNew.f k a0 = some r) : Contract Tryz.prog kit 4 [.sc (.int .i64 a0)] [] (spec_DeviceNew.e r).1 (spec_DeviceNew.e r).2.1 (spec_DeviceNew.e r).2.2 :=
  con_okG kitOk mix (fun k => (CtxOk.cons (spec_FlashNew.xok k) (CtxOk.cons (spec_MountAll.xok k) CtxOk.nil))) (spec_DeviceNew.oke k a0) h (by kernel_rfl) (by kernel_rfl) (by kernel_rfl) rfl (by kernel_rfl) rfl rfl
noncomputable def spec_DeviceNew.x (k : Nat) : X := fun ins bs κ => match ins, bs with
  | [.sc (.int .i64 a0)], [] => (spec_DeviceNew.f k a0).bind fun r => κ (spec_DeviceNew.e r).1 (spec_DeviceNew.e r).2.1 (spec_DeviceNew.e r).2.2
  | _, _ => none
theorem spec_DeviceNew.xok (k : Nat) : XOk 4 (spec_DeviceNew.x k) := by
  intro ins bs κ res h
  unfold spec_DeviceNew.x at h
  split at h
  · obtain ⟨r, hr, h⟩ := Option.bind_eq_some_iff.1 h
    exact ⟨_, _, _, spec_DeviceNew.con k _ r hr, h⟩
  · cases h

/-! ### impl_in: function 27 -/
noncomputable def impl_in.sp : Nat → Option (Spec Ty) := fun r => none
noncomputable def impl_in.en : Option (Spec Ty) := none
noncomputable def impl_in.ctx (k : Nat) : Ctx Ty D := (fun _ _ _ _ => none)
noncomputable def impl_in.f (k : Nat) (a0 : Int) (a1 : Int) (a2 : Int) : Option (Bool) := (if a0 ≥ a1 then (some ((decide (a0 ≤ a2)))) else (some (false)))
noncomputable def impl_in.e (r : Bool) : Res Ty D := (.sc (.bool r), [], [])
noncomputable abbrev impl_in.g (rec : List Item → St Ty D → R) (k : Nat) := go1 Tryz.f27 (impl_in.ctx k) impl_in.sp 0 impl_in.en rec
set_option maxRecDepth 100000 in
theorem impl_in.te (rec : List Item → St Ty D → R) (k : Nat) (a0 : Int) (a1 : Int) (a2 : Int) : impl_in.g rec k [.code (body Tryz.f27)] (startSt [.sc (.int .i64 a0), .sc (.int .i64 a1), .sc (.int .i64 a2)] []) =
  bif decide (a0 ≥ a1) then some (impl_in.e ((decide (a0 ≤ a2)))) else some (impl_in.e (false)) := by kernel_rfl
set_option maxRecDepth 100000 in
theorem impl_in.oke (k : Nat) (a0 : Int) (a1 : Int) (a2 : Int) : goF Tryz.f27 impl_in.ctx impl_in.sp 0 impl_in.en (k + 1) [.code (body Tryz.f27)] (startSt [.sc (.int .i64 a0), .sc (.int .i64 a1), .sc (.int .i64 a2)] []) = (impl_in.f k a0 a1 a2).map impl_in.e := by
  rw [impl_in.f]; exact (impl_in.te _ k a0 a1 a2).trans (cd rfl rfl)
theorem impl_in.con (k : Nat) (a0 : Int) (a1 : Int) (a2 : Int) (r) (h : impl_in.f k a0 a1 a2 = some r) : Contract Tryz.prog kit 27 [.sc (.int .i64 a0), .sc (.int .i64 a1), .sc (.int .i64 a2)] [] (impl_in.e r).1 (impl_in.e r).2.1 (impl_in.e r).2.2 :=
  con_okG kitOk mix (fun k => CtxOk.nil) (impl_in.oke k a0 a1 a2) h (by kernel_rfl) (by kernel_rfl) (by kernel_rfl) rfl (by kernel_rfl) rfl rfl
noncomputable def impl_in.x (k : Nat) : X := fun ins bs κ => match ins, bs with
  | [.sc (.int .i64 a0), .sc (.int .i64 a1), .sc (.int .i64 a2)], [] => (impl_in.f k a0 a1 a2).bind fun r => κ (impl_in.e r).1 (impl_in.e r).2.1 (impl_in.e r).2.2
  | _, _ => none
theorem impl_in.xok (k : Nat) : XOk 27 (impl_in.x k) := by
  intro ins bs κ res h
  unfold impl_in.x at h
  split at h
  · obtain ⟨r, hr, h⟩ := Option.bind_eq_some_iff.1 h
    exact ⟨_, _, _, impl_in.con k _ _ _ r hr, h⟩
  · cases h

/-! ### impl_blankLeaves: function 28 -/
noncomputable def impl_blankLeaves.sp : Nat → Option (Spec Ty) := fun r => none
noncomputable def impl_blankLeaves.en : Option (Spec Ty) := some ⟨[(0, .own .t76)], []⟩
noncomputable def impl_blankLeaves.ctx (k : Nat) : Ctx Ty D := (fun _ _ _ _ => none)
noncomputable def impl_blankLeaves.f (k : Nat) : Option ((List S76)) := (some ((List.replicate 4 z76)))
noncomputable def impl_blankLeaves.e (r : (List S76)) : Res Ty D := (.sl 0 none, [], [.rowb .t76 r 0])
noncomputable abbrev impl_blankLeaves.g (rec : List Item → St Ty D → R) (k : Nat) := go1 Tryz.f28 (impl_blankLeaves.ctx k) impl_blankLeaves.sp 0 impl_blankLeaves.en rec
set_option maxRecDepth 100000 in
theorem impl_blankLeaves.te (rec : List Item → St Ty D → R) (k : Nat) : impl_blankLeaves.g rec k [.code (body Tryz.f28)] (startSt [] []) =
  some (impl_blankLeaves.e ((List.replicate 4 z76))) := by kernel_rfl
set_option maxRecDepth 100000 in
theorem impl_blankLeaves.oke (k : Nat) : goF Tryz.f28 impl_blankLeaves.ctx impl_blankLeaves.sp 0 impl_blankLeaves.en (k + 1) [.code (body Tryz.f28)] (startSt [] []) = (impl_blankLeaves.f k).map impl_blankLeaves.e := by
  rw [impl_blankLeaves.f]; exact (impl_blankLeaves.te _ k).trans rfl
theorem impl_blankLeaves.con (k : Nat) (r) (h : impl_blankLeaves.f k = some r) : Contract Tryz.prog kit 28 [] [] (impl_blankLeaves.e r).1 (impl_blankLeaves.e r).2.1 (impl_blankLeaves.e r).2.2 :=
  con_okG kitOk mix (fun k => CtxOk.nil) (impl_blankLeaves.oke k) h (by kernel_rfl) (by kernel_rfl) (by kernel_rfl) rfl (by kernel_rfl) rfl rfl
noncomputable def impl_blankLeaves.x (k : Nat) : X := fun ins bs κ => match ins, bs with
  | [], [] => (impl_blankLeaves.f k).bind fun r => κ (impl_blankLeaves.e r).1 (impl_blankLeaves.e r).2.1 (impl_blankLeaves.e r).2.2
  | _, _ => none
theorem impl_blankLeaves.xok (k : Nat) : XOk 28 (impl_blankLeaves.x k) := by
  intro ins bs κ res h
  unfold impl_blankLeaves.x at h
  split at h
  · obtain ⟨r, hr, h⟩ := Option.bind_eq_some_iff.1 h
    exact ⟨_, _, _, impl_blankLeaves.con k r hr, h⟩
  · cases h

/-! ### impl_FlashNew: function 11 -/
noncomputable def impl_FlashNew.sp : Nat → Option (Spec Ty) := fun r => bif Nat.beq r 5 then some ⟨[(2, .box [.own .t48]), (4, .box [.own .t48]), (9, .keep), (10, .keep)], []⟩ else none
noncomputable def impl_FlashNew.en : Option (Spec Ty) := some ⟨[(2, .box [.own .t48]), (3, .keep)], []⟩
noncomputable def impl_FlashNew.s5 (x9 : Int) (x10 : Int) (h65 : List S48) (h67 : List S48) : St Ty D := ⟨(Env.put (Env.put (Env.put (Env.put E (some 2) (.pt 64 0 0)) (some 4) (.pt 66 0 0)) (some 9) (.sc (.int .i64 x9))) (some 10) (.sc (.int .i64 x10))), Heap.put H0 [(65, some (.rowb .t48 h65 0)), (64, some (.box [.sl 65 none])), (67, some (.rowb .t48 h67 0)), (66, some (.box [.sl 67 none]))], 1000⟩
noncomputable def impl_FlashNew.ctx (k : Nat) : Ctx Ty D := (cons 27 (impl_in.x k) (cons 28 (impl_blankLeaves.x k) (fun _ _ _ _ => none)))
noncomputable def impl_FlashNew.c5 : Nat → Int → Int → (List S48) → (List S48) → Option ((List S48) × Bool)
  | 0, _, _, _, _ => none
  | k + 1, x9, x10, h65, h67 => (if x10 < x9 then ((impl_blankLeaves.f k).bind fun t2 => (if h67.length + ([(S48.mk false 0 t2)] : List S48).length ≤ 3518437208883 then (impl_FlashNew.c5 k x9 (w64 (x10 + 1)) h65 (h67 ++ ([(S48.mk false 0 t2)] : List S48))) else none)) else (some (h67, true)))
noncomputable def impl_FlashNew.f (k : Nat) (a0 : Int) : Option ((List S48) × Bool) := ((impl_in.f k a0 3 10).bind fun t1 => (if t1 = true then (impl_FlashNew.c5 k a0 0 ([] : List S48) ([] : List S48)) else (some (([] : List S48), false))))
noncomputable def impl_FlashNew.e (r : (List S48) × Bool) : Res Ty D := (.tu [.ag [.sl 0 none], .sc (.bool r.2)], [], [.rowb .t48 r.1 0])
noncomputable abbrev impl_FlashNew.g (rec : List Item → St Ty D → R) (k : Nat) := go1 Tryz.f11 (impl_FlashNew.ctx k) impl_FlashNew.sp 0 impl_FlashNew.en rec
set_option maxRecDepth 100000 in
theorem impl_FlashNew.t5 (rec : List Item → St Ty D → R) (k : Nat) (x9 : Int) (x10 : Int) (h65 : List S48) (h67 : List S48) : impl_FlashNew.g rec k (td Tryz.f11 5) (impl_FlashNew.s5 x9 x10 h65 h67) =
  bif decide (x10 < x9) then (impl_blankLeaves.f k).bind fun t2 => bif decide (h67.length + ([(S48.mk false 0 t2)] : List S48).length ≤ 3518437208883) then rec (td Tryz.f11 5) (impl_FlashNew.s5 x9 (w64 (x10 + 1)) h65 (h67 ++ ([(S48.mk false 0 t2)] : List S48))) else none else some (impl_FlashNew.e (h67, true)) := by kernel_rfl
set_option maxRecDepth 100000 in
theorem impl_FlashNew.te (rec : List Item → St Ty D → R) (k : Nat) (a0 : Int) : impl_FlashNew.g rec k [.code (body Tryz.f11)] (startSt [.sc (.int .i64 a0)] []) =
  (impl_in.f k a0 3 10).bind fun t1 => bif !t1 then some (impl_FlashNew.e (([] : List S48), false)) else rec (td Tryz.f11 5) (impl_FlashNew.s5 a0 0 ([] : List S48) ([] : List S48)) := by kernel_rfl
set_option maxRecDepth 100000 in
theorem impl_FlashNew.ok : ∀ k : Nat, (∀ (x9 : Int) (x10 : Int) (h65 : List S48) (h67 : List S48), goF Tryz.f11 impl_FlashNew.ctx impl_FlashNew.sp 0 impl_FlashNew.en k (td Tryz.f11 5) (impl_FlashNew.s5 x9 x10 h65 h67) = (impl_FlashNew.c5 k x9 x10 h65 h67).map impl_FlashNew.e)
  | 0 => fun _ _ _ _ => rfl
  | k + 1 => by
    have ih := impl_FlashNew.ok k
    have i5 := ih
    intro x9 x10 h65 h67; rw [impl_FlashNew.c5]; exact (impl_FlashNew.t5 _ k x9 x10 h65 h67).trans (cd (bn (fun t2 => (cd (i5 _ _ _ _) rfl))) rfl)
set_option maxRecDepth 100000 in
theorem impl_FlashNew.oke (k : Nat) (a0 : Int) : goF Tryz.f11 impl_FlashNew.ctx impl_FlashNew.sp 0 impl_FlashNew.en (k + 1) [.code (body Tryz.f11)] (startSt [.sc (.int .i64 a0)] []) = (impl_FlashNew.f k a0).map impl_FlashNew.e := by
  have i5 := impl_FlashNew.ok k
  rw [impl_FlashNew.f]; exact (impl_FlashNew.te _ k a0).trans (bn (fun t1 => (nb rfl (i5 _ _ _ _))))
theorem impl_FlashNew.con (k : Nat) (a0 : Int) (r) (h : impl_FlashNew.f k a0 = some r) : Contract Tryz.prog kit 11 [.sc (.int .i64 a0)] [] (impl_FlashNew.e r).1 (impl_FlashNew.e r).2.1 (impl_FlashNew.e r).2.2 :=
  con_okG kitOk mix (fun k => (CtxOk.cons (impl_in.xok k) (CtxOk.cons (impl_blankLeaves.xok k) CtxOk.nil))) (impl_FlashNew.oke k a0) h (by kernel_rfl) (by kernel_rfl) (by kernel_rfl) rfl (by kernel_rfl) rfl rfl
noncomputable def impl_FlashNew.x (k : Nat) : X := fun ins bs κ => match ins, bs with
  | [.sc (.int .i64 a0)], [] => (impl_FlashNew.f k a0).bind fun r => κ (impl_FlashNew.e r).1 (impl_FlashNew.e r).2.1 (impl_FlashNew.e r).2.2
  | _, _ => none
theorem impl_FlashNew.xok (k : Nat) : XOk 11 (impl_FlashNew.x k) := by
  intro ins bs κ res h
  unfold impl_FlashNew.x at h
  split at h
  · obtain ⟨r, hr, h⟩ := Option.bind_eq_some_iff.1 h
    exact ⟨_, _, _, impl_FlashNew.con k _ r hr, h⟩
  · cases h

/-! ### impl_leafOk: function 52 -/
noncomputable def impl_leafOk.sp : Nat → Option (Spec Ty) := fun r => none
noncomputable def impl_leafOk.en : Option (Spec Ty) := none
noncomputable def impl_leafOk.ctx (k : Nat) : Ctx Ty D := (cons 27 (impl_in.x k) (fun _ _ _ _ => none))
noncomputable def impl_leafOk.f (k : Nat) (a0_0 : Int) (a0_1 : ByteArray) : Option (Bool) := (if a0_0 = 0 then (some ((seq a0_1 (⟨#[]⟩ : ByteArray)))) else (if a0_0 = 1 then ((impl_in.f k (a0_1.size : Int) 1 120).bind fun t1 => (some (t1))) else (if a0_0 = 2 then (some ((decide ((a0_1.size : Int) ≤ 120)))) else (some (false)))))
noncomputable def impl_leafOk.e (r : Bool) : Res Ty D := (.sc (.bool r), [], [])
noncomputable abbrev impl_leafOk.g (rec : List Item → St Ty D → R) (k : Nat) := go1 Tryz.f52 (impl_leafOk.ctx k) impl_leafOk.sp 0 impl_leafOk.en rec
set_option maxRecDepth 100000 in
theorem impl_leafOk.te (rec : List Item → St Ty D → R) (k : Nat) (a0_0 : Int) (a0_1 : ByteArray) : impl_leafOk.g rec k [.code (body Tryz.f52)] (startSt [.ag [.sc (.int .i64 a0_0), .sc (.string a0_1)]] []) =
  bif decide (a0_0 = 0) then some (impl_leafOk.e ((seq a0_1 (⟨#[]⟩ : ByteArray)))) else bif decide (a0_0 = 1) then (impl_in.f k (a0_1.size : Int) 1 120).bind fun t1 => some (impl_leafOk.e (t1)) else bif decide (a0_0 = 2) then some (impl_leafOk.e ((decide ((a0_1.size : Int) ≤ 120)))) else some (impl_leafOk.e (false)) := by kernel_rfl
set_option maxRecDepth 100000 in
theorem impl_leafOk.oke (k : Nat) (a0_0 : Int) (a0_1 : ByteArray) : goF Tryz.f52 impl_leafOk.ctx impl_leafOk.sp 0 impl_leafOk.en (k + 1) [.code (body Tryz.f52)] (startSt [.ag [.sc (.int .i64 a0_0), .sc (.string a0_1)]] []) = (impl_leafOk.f k a0_0 a0_1).map impl_leafOk.e := by
  rw [impl_leafOk.f]; exact (impl_leafOk.te _ k a0_0 a0_1).trans (cd rfl (cd (bn (fun t1 => rfl)) (cd rfl rfl)))
theorem impl_leafOk.con (k : Nat) (a0_0 : Int) (a0_1 : ByteArray) (r) (h : impl_leafOk.f k a0_0 a0_1 = some r) : Contract Tryz.prog kit 52 [.ag [.sc (.int .i64 a0_0), .sc (.string a0_1)]] [] (impl_leafOk.e r).1 (impl_leafOk.e r).2.1 (impl_leafOk.e r).2.2 :=
  con_okG kitOk mix (fun k => (CtxOk.cons (impl_in.xok k) CtxOk.nil)) (impl_leafOk.oke k a0_0 a0_1) h (by kernel_rfl) (by kernel_rfl) (by kernel_rfl) rfl (by kernel_rfl) rfl rfl
noncomputable def impl_leafOk.x (k : Nat) : X := fun ins bs κ => match ins, bs with
  | [.ag [.sc (.int .i64 a0_0), .sc (.string a0_1)]], [] => (impl_leafOk.f k a0_0 a0_1).bind fun r => κ (impl_leafOk.e r).1 (impl_leafOk.e r).2.1 (impl_leafOk.e r).2.2
  | _, _ => none
theorem impl_leafOk.xok (k : Nat) : XOk 52 (impl_leafOk.x k) := by
  intro ins bs κ res h
  unfold impl_leafOk.x at h
  split at h
  · obtain ⟨r, hr, h⟩ := Option.bind_eq_some_iff.1 h
    exact ⟨_, _, _, impl_leafOk.con k _ _ r hr, h⟩
  · cases h

/-! ### impl_FlashOk: function 29 -/
noncomputable def impl_FlashOk.sp : Nat → Option (Spec Ty) := fun r => bif Nat.beq r 2 then some ⟨[(1, .box [.keep]), (8, .keep), (9, .keep), (10, .keep)], []⟩ else bif Nat.beq r 7 then some ⟨[(1, .box [.keep]), (4, .box [.keep, .keep, .keep]), (8, .keep), (9, .keep), (10, .keep), (19, .box [.keep, .keep, .keep]), (20, .keep), (21, .keep), (22, .keep), (25, .keep), (26, .keep), (27, .keep)], []⟩ else none
noncomputable def impl_FlashOk.en : Option (Spec Ty) := none
noncomputable def impl_FlashOk.s2 (x8 : List S48) (x9 : Int) (x10 : Int) (h64_0 : List S48) : St Ty D := ⟨(Env.put (Env.put (Env.put (Env.put E (some 1) (.pt 64 0 0)) (some 8) (.row 0 .t48 x8)) (some 9) (.sc (.int .i64 x9))) (some 10) (.sc (.int .i64 x10))), Heap.put H0 [(64, some (.box [.row 0 .t48 h64_0]))], 1000⟩
noncomputable def impl_FlashOk.s7 (x8 : List S48) (x9 : Int) (x10 : Int) (x20 : Int) (x21 : Bool) (x22 : Bool) (x25 : List S76) (x26 : Int) (x27 : Int) (h64_0 : List S48) (h65_0 : Bool) (h65_1 : Int) (h65_2 : List S76) : St Ty D := ⟨(Env.put (Env.put (Env.put (Env.put (Env.put (Env.put (Env.put (Env.put (Env.put (Env.put (Env.put (Env.put E (some 1) (.pt 64 0 0)) (some 4) (.pt 65 0 0)) (some 8) (.row 0 .t48 x8)) (some 9) (.sc (.int .i64 x9))) (some 10) (.sc (.int .i64 x10))) (some 19) (.pt 65 0 1)) (some 20) (.sc (.int .i64 x20))) (some 21) (.sc (.bool x21))) (some 22) (.sc (.bool x22))) (some 25) (.row 0 .t76 x25)) (some 26) (.sc (.int .i64 x26))) (some 27) (.sc (.int .i64 x27))), Heap.put H0 [(64, some (.box [.row 0 .t48 h64_0])), (65, some (.box [.sc (.bool h65_0), .sc (.int .i64 h65_1), .row 0 .t76 h65_2]))], 1000⟩
noncomputable def impl_FlashOk.ctx (k : Nat) : Ctx Ty D := (cons 27 (impl_in.x k) (cons 52 (impl_leafOk.x k) (fun _ _ _ _ => none)))
mutual
noncomputable def impl_FlashOk.c2 : Nat → (List S48) → Int → Int → (List S48) → Option (Bool)
  | 0, _, _, _, _ => none
  | k + 1, x8, x9, x10, h64_0 => (if x10 < x9 then (if 0 ≤ x10 then (if x10 < (x8.length : Int) then (if (((rd_T48 x8 x10).f2).length : Int) = 4 then ((impl_in.f k ((rd_T48 x8 x10).f1) 0 1000000000).bind fun t1 => (if t1 = true then (impl_FlashOk.c7 k x8 x9 x10 ((rd_T48 x8 x10).f1) t1 (!t1) ((rd_T48 x8 x10).f2) (((rd_T48 x8 x10).f2).length : Int) 0 h64_0 ((rd_T48 x8 x10).f0) ((rd_T48 x8 x10).f1) ((rd_T48 x8 x10).f2)) else (some (false)))) else (some (false))) else none) else none) else ((impl_in.f k (h64_0.length : Int) 3 10).bind fun t2 => (some (t2))))
noncomputable def impl_FlashOk.c7 : Nat → (List S48) → Int → Int → Int → Bool → Bool → (List S76) → Int → Int → (List S48) → Bool → Int → (List S76) → Option (Bool)
  | 0, _, _, _, _, _, _, _, _, _, _, _, _, _ => none
  | k + 1, x8, x9, x10, x20, x21, x22, x25, x26, x27, h64_0, h65_0, h65_1, h65_2 => (if x27 < x26 then (if 0 ≤ x27 then (if x27 < (x25.length : Int) then ((impl_leafOk.f k ((rd_T76 x25 x27).f0) ((rd_T76 x25 x27).f1)).bind fun t3 => (if t3 = true then (if x27 > 0 then (if 0 ≤ (w64 (x27 - 1)) then (if (w64 (x27 - 1)) < (h65_2.length : Int) then (if ((rd_T76 h65_2 (w64 (x27 - 1))).f0) = 0 then (if ((rd_T76 x25 x27).f0) = 0 then (impl_FlashOk.c7 k x8 x9 x10 x20 x21 x22 x25 x26 (w64 (x27 + 1)) h64_0 h65_0 h65_1 h65_2) else (some (false))) else (impl_FlashOk.c7 k x8 x9 x10 x20 x21 x22 x25 x26 (w64 (x27 + 1)) h64_0 h65_0 h65_1 h65_2)) else none) else none) else (impl_FlashOk.c7 k x8 x9 x10 x20 x21 x22 x25 x26 (w64 (x27 + 1)) h64_0 h65_0 h65_1 h65_2)) else (some (false)))) else none) else none) else (impl_FlashOk.c2 k x8 x9 (w64 (x10 + 1)) h64_0))
end
noncomputable def impl_FlashOk.f (k : Nat) (a0_0 : List S48) : Option (Bool) := (impl_FlashOk.c2 k a0_0 (a0_0.length : Int) 0 a0_0)
noncomputable def impl_FlashOk.e (r : Bool) : Res Ty D := (.sc (.bool r), [], [])
noncomputable abbrev impl_FlashOk.g (rec : List Item → St Ty D → R) (k : Nat) := go1 Tryz.f29 (impl_FlashOk.ctx k) impl_FlashOk.sp 0 impl_FlashOk.en rec
set_option maxRecDepth 100000 in
theorem impl_FlashOk.t2 (rec : List Item → St Ty D → R) (k : Nat) (x8 : List S48) (x9 : Int) (x10 : Int) (h64_0 : List S48) : impl_FlashOk.g rec k (td Tryz.f29 2) (impl_FlashOk.s2 x8 x9 x10 h64_0) =
  bif decide (x10 < x9) then bif decide (0 ≤ x10) then bif decide (x10 < (x8.length : Int)) then bif !decide ((((rd_T48 x8 x10).f2).length : Int) = 4) then some (impl_FlashOk.e (false)) else (impl_in.f k ((rd_T48 x8 x10).f1) 0 1000000000).bind fun t1 => bif !t1 then some (impl_FlashOk.e (false)) else rec (td Tryz.f29 7) (impl_FlashOk.s7 x8 x9 x10 ((rd_T48 x8 x10).f1) t1 (!t1) ((rd_T48 x8 x10).f2) (((rd_T48 x8 x10).f2).length : Int) 0 h64_0 ((rd_T48 x8 x10).f0) ((rd_T48 x8 x10).f1) ((rd_T48 x8 x10).f2)) else none else none else (impl_in.f k (h64_0.length : Int) 3 10).bind fun t2 => some (impl_FlashOk.e (t2)) := by kernel_rfl
set_option maxRecDepth 100000 in
theorem impl_FlashOk.t7 (rec : List Item → St Ty D → R) (k : Nat) (x8 : List S48) (x9 : Int) (x10 : Int) (x20 : Int) (x21 : Bool) (x22 : Bool) (x25 : List S76) (x26 : Int) (x27 : Int) (h64_0 : List S48) (h65_0 : Bool) (h65_1 : Int) (h65_2 : List S76) : impl_FlashOk.g rec k (td Tryz.f29 7) (impl_FlashOk.s7 x8 x9 x10 x20 x21 x22 x25 x26 x27 h64_0 h65_0 h65_1 h65_2) =
  bif decide (x27 < x26) then bif decide (0 ≤ x27) then bif decide (x27 < (x25.length : Int)) then (impl_leafOk.f k ((rd_T76 x25 x27).f0) ((rd_T76 x25 x27).f1)).bind fun t3 => bif !t3 then some (impl_FlashOk.e (false)) else bif decide (x27 > 0) then bif decide (0 ≤ (w64 (x27 - 1))) then bif decide ((w64 (x27 - 1)) < (h65_2.length : Int)) then bif decide (((rd_T76 h65_2 (w64 (x27 - 1))).f0) = 0) then bif !decide (((rd_T76 x25 x27).f0) = 0) then some (impl_FlashOk.e (false)) else rec (td Tryz.f29 7) (impl_FlashOk.s7 x8 x9 x10 x20 x21 x22 x25 x26 (w64 (x27 + 1)) h64_0 h65_0 h65_1 h65_2) else rec (td Tryz.f29 7) (impl_FlashOk.s7 x8 x9 x10 x20 x21 x22 x25 x26 (w64 (x27 + 1)) h64_0 h65_0 h65_1 h65_2) else none else none else rec (td Tryz.f29 7) (impl_FlashOk.s7 x8 x9 x10 x20 x21 x22 x25 x26 (w64 (x27 + 1)) h64_0 h65_0 h65_1 h65_2) else none else none else rec (td Tryz.f29 2) (impl_FlashOk.s2 x8 x9 (w64 (x10 + 1)) h64_0) := by kernel_rfl
set_option maxRecDepth 100000 in
theorem impl_FlashOk.te (rec : List Item → St Ty D → R) (k : Nat) (a0_0 : List S48) : impl_FlashOk.g rec k [.code (body Tryz.f29)] (startSt [.ag [.row 0 .t48 a0_0]] []) =
  rec (td Tryz.f29 2) (impl_FlashOk.s2 a0_0 (a0_0.length : Int) 0 a0_0) := by kernel_rfl
set_option maxRecDepth 100000 in
theorem impl_FlashOk.ok : ∀ k : Nat, (∀ (x8 : List S48) (x9 : Int) (x10 : Int) (h64_0 : List S48), goF Tryz.f29 impl_FlashOk.ctx impl_FlashOk.sp 0 impl_FlashOk.en k (td Tryz.f29 2) (impl_FlashOk.s2 x8 x9 x10 h64_0) = (impl_FlashOk.c2 k x8 x9 x10 h64_0).map impl_FlashOk.e) ∧ (∀ (x8 : List S48) (x9 : Int) (x10 : Int) (x20 : Int) (x21 : Bool) (x22 : Bool) (x25 : List S76) (x26 : Int) (x27 : Int) (h64_0 : List S48) (h65_0 : Bool) (h65_1 : Int) (h65_2 : List S76), goF Tryz.f29 impl_FlashOk.ctx impl_FlashOk.sp 0 impl_FlashOk.en k (td Tryz.f29 7) (impl_FlashOk.s7 x8 x9 x10 x20 x21 x22 x25 x26 x27 h64_0 h65_0 h65_1 h65_2) = (impl_FlashOk.c7 k x8 x9 x10 x20 x21 x22 x25 x26 x27 h64_0 h65_0 h65_1 h65_2).map impl_FlashOk.e)
  | 0 => ⟨fun _ _ _ _ => rfl, fun _ _ _ _ _ _ _ _ _ _ _ _ _ => rfl⟩
  | k + 1 => by
    have ih := impl_FlashOk.ok k
    obtain ⟨i2, i7⟩ := ih
    refine ⟨?_, ?_⟩
    · intro x8 x9 x10 h64_0; rw [impl_FlashOk.c2]; exact (impl_FlashOk.t2 _ k x8 x9 x10 h64_0).trans (cd (cd (cd (nd rfl (bn (fun t1 => (nb rfl (i7 _ _ _ _ _ _ _ _ _ _ _ _ _))))) rfl) rfl) (bn (fun t2 => rfl)))
    · intro x8 x9 x10 x20 x21 x22 x25 x26 x27 h64_0 h65_0 h65_1 h65_2; rw [impl_FlashOk.c7]; exact (impl_FlashOk.t7 _ k x8 x9 x10 x20 x21 x22 x25 x26 x27 h64_0 h65_0 h65_1 h65_2).trans (cd (cd (cd (bn (fun t3 => (nb rfl (cd (cd (cd (cd (nd rfl (i7 _ _ _ _ _ _ _ _ _ _ _ _ _)) (i7 _ _ _ _ _ _ _ _ _ _ _ _ _)) rfl) rfl) (i7 _ _ _ _ _ _ _ _ _ _ _ _ _))))) rfl) rfl) (i2 _ _ _ _))
set_option maxRecDepth 100000 in
theorem impl_FlashOk.oke (k : Nat) (a0_0 : List S48) : goF Tryz.f29 impl_FlashOk.ctx impl_FlashOk.sp 0 impl_FlashOk.en (k + 1) [.code (body Tryz.f29)] (startSt [.ag [.row 0 .t48 a0_0]] []) = (impl_FlashOk.f k a0_0).map impl_FlashOk.e := by
  obtain ⟨i2, i7⟩ := impl_FlashOk.ok k
  rw [impl_FlashOk.f]; exact (impl_FlashOk.te _ k a0_0).trans (i2 _ _ _ _)
theorem impl_FlashOk.con (k : Nat) (a0_0 : List S48) (r) (h : impl_FlashOk.f k a0_0 = some r) : Contract Tryz.prog kit 29 [.ag [.row 0 .t48 a0_0]] [] (impl_FlashOk.e r).1 (impl_FlashOk.e r).2.1 (impl_FlashOk.e r).2.2 :=
  con_okG kitOk mix (fun k => (CtxOk.cons (impl_in.xok k) (CtxOk.cons (impl_leafOk.xok k) CtxOk.nil))) (impl_FlashOk.oke k a0_0) h (by kernel_rfl) (by kernel_rfl) (by kernel_rfl) rfl (by kernel_rfl) rfl rfl
noncomputable def impl_FlashOk.x (k : Nat) : X := fun ins bs κ => match ins, bs with
  | [.ag [.row 0 .t48 a0_0]], [] => (impl_FlashOk.f k a0_0).bind fun r => κ (impl_FlashOk.e r).1 (impl_FlashOk.e r).2.1 (impl_FlashOk.e r).2.2
  | _, _ => none
theorem impl_FlashOk.xok (k : Nat) : XOk 29 (impl_FlashOk.x k) := by
  intro ins bs κ res h
  unfold impl_FlashOk.x at h
  split at h
  · obtain ⟨r, hr, h⟩ := Option.bind_eq_some_iff.1 h
    exact ⟨_, _, _, impl_FlashOk.con k _ r hr, h⟩
  · cases h

/-! ### impl_Unsealed: function 80 -/
noncomputable def impl_Unsealed.sp : Nat → Option (Spec Ty) := fun r => none
noncomputable def impl_Unsealed.en : Option (Spec Ty) := none
noncomputable def impl_Unsealed.ctx (k : Nat) : Ctx Ty D := (fun _ _ _ _ => none)
noncomputable def impl_Unsealed.f (k : Nat) (a0 : ByteArray) : Option (ByteArray × Bool) := (if (a0.size : Int) < 4 then (some ((⟨#[]⟩ : ByteArray), false)) else (if 0 ≤ (w64 ((a0.size : Int) - 4)) then (if (w64 ((a0.size : Int) - 4)) ≤ (a0.size : Int) then none else none) else none))
noncomputable def impl_Unsealed.e (r : ByteArray × Bool) : Res Ty D := (.tu [.sc (.string r.1), .sc (.bool r.2)], [], [])
noncomputable abbrev impl_Unsealed.g (rec : List Item → St Ty D → R) (k : Nat) := go1 Tryz.f80 (impl_Unsealed.ctx k) impl_Unsealed.sp 0 impl_Unsealed.en rec
set_option maxRecDepth 100000 in
theorem impl_Unsealed.te (rec : List Item → St Ty D → R) (k : Nat) (a0 : ByteArray) : impl_Unsealed.g rec k [.code (body Tryz.f80)] (startSt [.sc (.string a0)] []) =
  bif decide ((a0.size : Int) < 4) then some (impl_Unsealed.e ((⟨#[]⟩ : ByteArray), false)) else bif decide (0 ≤ (w64 ((a0.size : Int) - 4))) then bif decide ((w64 ((a0.size : Int) - 4)) ≤ (a0.size : Int)) then none else none else none := by kernel_rfl
set_option maxRecDepth 100000 in
theorem impl_Unsealed.oke (k : Nat) (a0 : ByteArray) : goF Tryz.f80 impl_Unsealed.ctx impl_Unsealed.sp 0 impl_Unsealed.en (k + 1) [.code (body Tryz.f80)] (startSt [.sc (.string a0)] []) = (impl_Unsealed.f k a0).map impl_Unsealed.e := by
  rw [impl_Unsealed.f]; exact (impl_Unsealed.te _ k a0).trans (cd rfl (cd (cd rfl rfl) rfl))
theorem impl_Unsealed.con (k : Nat) (a0 : ByteArray) (r) (h : impl_Unsealed.f k a0 = some r) : Contract Tryz.prog kit 80 [.sc (.string a0)] [] (impl_Unsealed.e r).1 (impl_Unsealed.e r).2.1 (impl_Unsealed.e r).2.2 :=
  con_okG kitOk mix (fun k => CtxOk.nil) (impl_Unsealed.oke k a0) h (by kernel_rfl) (by kernel_rfl) (by kernel_rfl) rfl (by kernel_rfl) rfl rfl
noncomputable def impl_Unsealed.x (k : Nat) : X := fun ins bs κ => match ins, bs with
  | [.sc (.string a0)], [] => (impl_Unsealed.f k a0).bind fun r => κ (impl_Unsealed.e r).1 (impl_Unsealed.e r).2.1 (impl_Unsealed.e r).2.2
  | _, _ => none
theorem impl_Unsealed.xok (k : Nat) : XOk 80 (impl_Unsealed.x k) := by
  intro ins bs κ res h
  unfold impl_Unsealed.x at h
  split at h
  · obtain ⟨r, hr, h⟩ := Option.bind_eq_some_iff.1 h
    exact ⟨_, _, _, impl_Unsealed.con k _ r hr, h⟩
  · cases h

/-! ### impl_ReadPage: function 53 -/
noncomputable def impl_ReadPage.sp : Nat → Option (Spec Ty) := fun r => bif Nat.beq r 7 then some ⟨[(2, .box [.keep, .keep, .keep, .keep, .keep, .keep]), (4, .keep), (6, .arr .t3), (7, .keep), (25, .keep)], []⟩ else none
noncomputable def impl_ReadPage.en : Option (Spec Ty) := none
noncomputable def impl_ReadPage.s7 (x4 : ByteArray) (x7 : Int) (x25 : Int) (h64_0 : Int) (h64_1 : Int) (h64_2 : Int) (h64_3 : Int) (h64_4 : Int) (h64_5 : ByteArray) (h65 : List Int) : St Ty D := ⟨(Env.put (Env.put (Env.put (Env.put (Env.put E (some 2) (.pt 64 0 0)) (some 4) (.sc (.string x4))) (some 6) (.pt 65 0 0)) (some 7) (.sc (.int .i64 x7))) (some 25) (.sc (.int .i64 x25))), Heap.put H0 [(64, some (.box [.sc (.int .i64 h64_0), .sc (.int .i64 h64_1), .sc (.int .i64 h64_2), .sc (.int .i64 h64_3), .sc (.int .i64 h64_4), .sc (.string h64_5)])), (65, some (.rowb .t3 h65 0))], 1000⟩
noncomputable def impl_ReadPage.ctx (k : Nat) : Ctx Ty D := (cons 80 (impl_Unsealed.x k) (fun _ _ _ _ => none))
noncomputable def impl_ReadPage.c7 : Nat → ByteArray → Int → Int → Int → Int → Int → Int → Int → ByteArray → (List Int) → Option (Int × Int × Int × Int × Int × ByteArray × Bool)
  | 0, _, _, _, _, _, _, _, _, _, _ => none
  | k + 1, x4, x7, x25, h64_0, h64_1, h64_2, h64_3, h64_4, h64_5, h65 => (if x25 < 4 then none else (if 0 < (x4.size : Int) then (if (Nat.beq 4 h65.length) = true then (if 0 < (h65.length : Int) then (if (Nat.beq 4 h65.length) = true then (if 1 < (h65.length : Int) then (if (Nat.beq 4 h65.length) = true then (if 2 < (h65.length : Int) then (if (Nat.beq 4 h65.length) = true then (if 3 < (h65.length : Int) then (if 0 ≤ x7 then (if x7 ≤ (x4.size : Int) then none else none) else none) else none) else none) else none) else none) else none) else none) else none) else none) else none))
noncomputable def impl_ReadPage.f (k : Nat) (a0 : ByteArray) : Option (Int × Int × Int × Int × Int × ByteArray × Bool) := ((impl_Unsealed.f k a0).bind fun t1 => (if t1.2 = true then (if (seq t1.1 (⟨#[]⟩ : ByteArray)) = true then (some (0, 0, 0, 0, 0, (⟨#[]⟩ : ByteArray), false)) else (impl_ReadPage.c7 k t1.1 1 0 0 0 0 0 0 (⟨#[]⟩ : ByteArray) (List.replicate 4 z3))) else (some (0, 0, 0, 0, 0, (⟨#[]⟩ : ByteArray), false))))
noncomputable def impl_ReadPage.e (r : Int × Int × Int × Int × Int × ByteArray × Bool) : Res Ty D := (.tu [.ag [.sc (.int .i64 r.1), .sc (.int .i64 r.2.1), .sc (.int .i64 r.2.2.1), .sc (.int .i64 r.2.2.2.1), .sc (.int .i64 r.2.2.2.2.1), .sc (.string r.2.2.2.2.2.1)], .sc (.bool r.2.2.2.2.2.2)], [], [])
noncomputable abbrev impl_ReadPage.g (rec : List Item → St Ty D → R) (k : Nat) := go1 Tryz.f53 (impl_ReadPage.ctx k) impl_ReadPage.sp 0 impl_ReadPage.en rec
set_option maxRecDepth 100000 in
theorem impl_ReadPage.t7 (rec : List Item → St Ty D → R) (k : Nat) (x4 : ByteArray) (x7 : Int) (x25 : Int) (h64_0 : Int) (h64_1 : Int) (h64_2 : Int) (h64_3 : Int) (h64_4 : Int) (h64_5 : ByteArray) (h65 : List Int) : impl_ReadPage.g rec k (td Tryz.f53 7) (impl_ReadPage.s7 x4 x7 x25 h64_0 h64_1 h64_2 h64_3 h64_4 h64_5 h65) =
  bif decide (x25 < 4) then none else bif decide (0 < (x4.size : Int)) then bif (Nat.beq 4 h65.length) then bif decide (0 < (h65.length : Int)) then bif (Nat.beq 4 h65.length) then bif decide (1 < (h65.length : Int)) then bif (Nat.beq 4 h65.length) then bif decide (2 < (h65.length : Int)) then bif (Nat.beq 4 h65.length) then bif decide (3 < (h65.length : Int)) then bif decide (0 ≤ x7) then bif decide (x7 ≤ (x4.size : Int)) then none else none else none else none else none else none else none else none else none else none else none else none := by kernel_rfl
set_option maxRecDepth 100000 in
theorem impl_ReadPage.te (rec : List Item → St Ty D → R) (k : Nat) (a0 : ByteArray) : impl_ReadPage.g rec k [.code (body Tryz.f53)] (startSt [.sc (.string a0)] []) =
  (impl_Unsealed.f k a0).bind fun t1 => bif !t1.2 then some (impl_ReadPage.e (0, 0, 0, 0, 0, (⟨#[]⟩ : ByteArray), false)) else bif (seq t1.1 (⟨#[]⟩ : ByteArray)) then some (impl_ReadPage.e (0, 0, 0, 0, 0, (⟨#[]⟩ : ByteArray), false)) else rec (td Tryz.f53 7) (impl_ReadPage.s7 t1.1 1 0 0 0 0 0 0 (⟨#[]⟩ : ByteArray) (List.replicate 4 z3)) := by kernel_rfl
set_option maxRecDepth 100000 in
theorem impl_ReadPage.ok : ∀ k : Nat, (∀ (x4 : ByteArray) (x7 : Int) (x25 : Int) (h64_0 : Int) (h64_1 : Int) (h64_2 : Int) (h64_3 : Int) (h64_4 : Int) (h64_5 : ByteArray) (h65 : List Int), goF Tryz.f53 impl_ReadPage.ctx impl_ReadPage.sp 0 impl_ReadPage.en k (td Tryz.f53 7) (impl_ReadPage.s7 x4 x7 x25 h64_0 h64_1 h64_2 h64_3 h64_4 h64_5 h65) = (impl_ReadPage.c7 k x4 x7 x25 h64_0 h64_1 h64_2 h64_3 h64_4 h64_5 h65).map impl_ReadPage.e)
  | 0 => fun _ _ _ _ _ _ _ _ _ _ => rfl
  | k + 1 => by
    have ih := impl_ReadPage.ok k
    have i7 := ih
    intro x4 x7 x25 h64_0 h64_1 h64_2 h64_3 h64_4 h64_5 h65; rw [impl_ReadPage.c7]; exact (impl_ReadPage.t7 _ k x4 x7 x25 h64_0 h64_1 h64_2 h64_3 h64_4 h64_5 h65).trans (cd rfl (cd (cb (cd (cb (cd (cb (cd (cb (cd (cd (cd rfl rfl) rfl) rfl) rfl) rfl) rfl) rfl) rfl) rfl) rfl) rfl))
set_option maxRecDepth 100000 in
theorem impl_ReadPage.oke (k : Nat) (a0 : ByteArray) : goF Tryz.f53 impl_ReadPage.ctx impl_ReadPage.sp 0 impl_ReadPage.en (k + 1) [.code (body Tryz.f53)] (startSt [.sc (.string a0)] []) = (impl_ReadPage.f k a0).map impl_ReadPage.e := by
  have i7 := impl_ReadPage.ok k
  rw [impl_ReadPage.f]; exact (impl_ReadPage.te _ k a0).trans (bn (fun t1 => (nb rfl (cb rfl (i7 _ _ _ _ _ _ _ _ _ _)))))
theorem impl_ReadPage.con (k : Nat) (a0 : ByteArray) (r) (h : impl_ReadPage.f k a0 = some r) : Contract Tryz.prog kit 53 [.sc (.string a0)] [] (impl_ReadPage.e r).1 (impl_ReadPage.e r).2.1 (impl_ReadPage.e r).2.2 :=
  con_okG kitOk mix (fun k => (CtxOk.cons (impl_Unsealed.xok k) CtxOk.nil)) (impl_ReadPage.oke k a0) h (by kernel_rfl) (by kernel_rfl) (by kernel_rfl) rfl (by kernel_rfl) rfl rfl
noncomputable def impl_ReadPage.x (k : Nat) : X := fun ins bs κ => match ins, bs with
  | [.sc (.string a0)], [] => (impl_ReadPage.f k a0).bind fun r => κ (impl_ReadPage.e r).1 (impl_ReadPage.e r).2.1 (impl_ReadPage.e r).2.2
  | _, _ => none
theorem impl_ReadPage.xok (k : Nat) : XOk 53 (impl_ReadPage.x k) := by
  intro ins bs κ res h
  unfold impl_ReadPage.x at h
  split at h
  · obtain ⟨r, hr, h⟩ := Option.bind_eq_some_iff.1 h
    exact ⟨_, _, _, impl_ReadPage.con k _ r hr, h⟩
  · cases h

/-! ### impl_ScanAll: function 30 -/
noncomputable def impl_ScanAll.sp : Nat → Option (Spec Ty) := fun r => bif Nat.beq r 3 then some ⟨[(3, .box [.own .t57]), (11, .keep), (12, .keep), (13, .keep)], []⟩ else bif Nat.beq r 6 then some ⟨[(3, .box [.own .t57]), (4, .keep), (11, .keep), (12, .keep), (13, .keep), (19, .keep), (20, .keep), (21, .keep)], []⟩ else none
noncomputable def impl_ScanAll.en : Option (Spec Ty) := some ⟨[(2, .own .t57)], []⟩
noncomputable def impl_ScanAll.s3 (x11 : List S48) (x12 : Int) (x13 : Int) (h65 : List S57) : St Ty D := ⟨(Env.put (Env.put (Env.put (Env.put E (some 3) (.pt 64 0 0)) (some 11) (.row 0 .t48 x11)) (some 12) (.sc (.int .i64 x12))) (some 13) (.sc (.int .i64 x13))), Heap.put H0 [(65, some (.rowb .t57 h65 0)), (64, some (.box [.sl 65 none]))], 1000⟩
noncomputable def impl_ScanAll.s6 (x4 : Int) (x11 : List S48) (x12 : Int) (x13 : Int) (x19 : List S76) (x20 : Int) (x21 : Int) (h65 : List S57) : St Ty D := ⟨(Env.put (Env.put (Env.put (Env.put (Env.put (Env.put (Env.put (Env.put E (some 3) (.pt 64 0 0)) (some 4) (.sc (.int .i64 x4))) (some 11) (.row 0 .t48 x11)) (some 12) (.sc (.int .i64 x12))) (some 13) (.sc (.int .i64 x13))) (some 19) (.row 0 .t76 x19)) (some 20) (.sc (.int .i64 x20))) (some 21) (.sc (.int .i64 x21))), Heap.put H0 [(65, some (.rowb .t57 h65 0)), (64, some (.box [.sl 65 none]))], 1000⟩
noncomputable def impl_ScanAll.ctx (k : Nat) : Ctx Ty D := (cons 53 (impl_ReadPage.x k) (fun _ _ _ _ => none))
mutual
noncomputable def impl_ScanAll.c3 : Nat → (List S48) → Int → Int → (List S57) → Option ((List S57))
  | 0, _, _, _, _ => none
  | k + 1, x11, x12, x13, h65 => (if x13 < x12 then (if 0 ≤ x13 then (if x13 < (x11.length : Int) then (impl_ScanAll.c6 k x13 x11 x12 x13 ((rd_T48 x11 x13).f2) (((rd_T48 x11 x13).f2).length : Int) 0 h65) else none) else none) else (if h65.length ≤ 1 then (some ((lsort57 h65))) else none))
noncomputable def impl_ScanAll.c6 : Nat → Int → (List S48) → Int → Int → (List S76) → Int → Int → (List S57) → Option ((List S57))
  | 0, _, _, _, _, _, _, _, _ => none
  | k + 1, x4, x11, x12, x13, x19, x20, x21, h65 => (if x21 < x20 then (if 0 ≤ x21 then (if x21 < (x19.length : Int) then ((impl_ReadPage.f k ((rd_T76 x19 x21).f1)).bind fun t1 => (if t1.2.2.2.2.2.2 = true then (if ((rd_T76 x19 x21).f0) = 1 then (if h65.length + ([(S57.mk x4 x21 (S55.mk t1.1 t1.2.1 t1.2.2.1 t1.2.2.2.1 t1.2.2.2.2.1 t1.2.2.2.2.2.1))] : List S57).length ≤ 1954687338268 then (impl_ScanAll.c6 k x4 x11 x12 x13 x19 x20 (w64 (x21 + 1)) (h65 ++ ([(S57.mk x4 x21 (S55.mk t1.1 t1.2.1 t1.2.2.1 t1.2.2.2.1 t1.2.2.2.2.1 t1.2.2.2.2.2.1))] : List S57))) else none) else (impl_ScanAll.c6 k x4 x11 x12 x13 x19 x20 (w64 (x21 + 1)) h65)) else (impl_ScanAll.c6 k x4 x11 x12 x13 x19 x20 (w64 (x21 + 1)) h65))) else none) else none) else (impl_ScanAll.c3 k x11 x12 (w64 (x13 + 1)) h65))
end
noncomputable def impl_ScanAll.f (k : Nat) (a0_0 : List S48) : Option ((List S57)) := (impl_ScanAll.c3 k a0_0 (a0_0.length : Int) 0 ([] : List S57))
noncomputable def impl_ScanAll.e (r : (List S57)) : Res Ty D := (.sl 0 none, [], [.rowb .t57 r 0])
noncomputable abbrev impl_ScanAll.g (rec : List Item → St Ty D → R) (k : Nat) := go1 Tryz.f30 (impl_ScanAll.ctx k) impl_ScanAll.sp 0 impl_ScanAll.en rec
set_option maxRecDepth 100000 in
theorem impl_ScanAll.t3 (rec : List Item → St Ty D → R) (k : Nat) (x11 : List S48) (x12 : Int) (x13 : Int) (h65 : List S57) : impl_ScanAll.g rec k (td Tryz.f30 3) (impl_ScanAll.s3 x11 x12 x13 h65) =
  bif decide (x13 < x12) then bif decide (0 ≤ x13) then bif decide (x13 < (x11.length : Int)) then rec (td Tryz.f30 6) (impl_ScanAll.s6 x13 x11 x12 x13 ((rd_T48 x11 x13).f2) (((rd_T48 x11 x13).f2).length : Int) 0 h65) else none else none else bif decide (h65.length ≤ 1) then some (impl_ScanAll.e ((lsort57 h65))) else none := by kernel_rfl
set_option maxRecDepth 100000 in
theorem impl_ScanAll.t6 (rec : List Item → St Ty D → R) (k : Nat) (x4 : Int) (x11 : List S48) (x12 : Int) (x13 : Int) (x19 : List S76) (x20 : Int) (x21 : Int) (h65 : List S57) : impl_ScanAll.g rec k (td Tryz.f30 6) (impl_ScanAll.s6 x4 x11 x12 x13 x19 x20 x21 h65) =
  bif decide (x21 < x20) then bif decide (0 ≤ x21) then bif decide (x21 < (x19.length : Int)) then (impl_ReadPage.f k ((rd_T76 x19 x21).f1)).bind fun t1 => bif t1.2.2.2.2.2.2 then bif decide (((rd_T76 x19 x21).f0) = 1) then bif decide (h65.length + ([(S57.mk x4 x21 (S55.mk t1.1 t1.2.1 t1.2.2.1 t1.2.2.2.1 t1.2.2.2.2.1 t1.2.2.2.2.2.1))] : List S57).length ≤ 1954687338268) then rec (td Tryz.f30 6) (impl_ScanAll.s6 x4 x11 x12 x13 x19 x20 (w64 (x21 + 1)) (h65 ++ ([(S57.mk x4 x21 (S55.mk t1.1 t1.2.1 t1.2.2.1 t1.2.2.2.1 t1.2.2.2.2.1 t1.2.2.2.2.2.1))] : List S57))) else none else rec (td Tryz.f30 6) (impl_ScanAll.s6 x4 x11 x12 x13 x19 x20 (w64 (x21 + 1)) h65) else rec (td Tryz.f30 6) (impl_ScanAll.s6 x4 x11 x12 x13 x19 x20 (w64 (x21 + 1)) h65) else none else none else rec (td Tryz.f30 3) (impl_ScanAll.s3 x11 x12 (w64 (x13 + 1)) h65) := by kernel_rfl
set_option maxRecDepth 100000 in
theorem impl_ScanAll.te (rec : List Item → St Ty D → R) (k : Nat) (a0_0 : List S48) : impl_ScanAll.g rec k [.code (body Tryz.f30)] (startSt [.ag [.row 0 .t48 a0_0]] []) =
  rec (td Tryz.f30 3) (impl_ScanAll.s3 a0_0 (a0_0.length : Int) 0 ([] : List S57)) := by kernel_rfl
set_option maxRecDepth 100000 in
theorem impl_ScanAll.ok : ∀ k : Nat, (∀ (x11 : List S48) (x12 : Int) (x13 : Int) (h65 : List S57), goF Tryz.f30 impl_ScanAll.ctx impl_ScanAll.sp 0 impl_ScanAll.en k (td Tryz.f30 3) (impl_ScanAll.s3 x11 x12 x13 h65) = (impl_ScanAll.c3 k x11 x12 x13 h65).map impl_ScanAll.e) ∧ (∀ (x4 : Int) (x11 : List S48) (x12 : Int) (x13 : Int) (x19 : List S76) (x20 : Int) (x21 : Int) (h65 : List S57), goF Tryz.f30 impl_ScanAll.ctx impl_ScanAll.sp 0 impl_ScanAll.en k (td Tryz.f30 6) (impl_ScanAll.s6 x4 x11 x12 x13 x19 x20 x21 h65) = (impl_ScanAll.c6 k x4 x11 x12 x13 x19 x20 x21 h65).map impl_ScanAll.e)
  | 0 => ⟨fun _ _ _ _ => rfl, fun _ _ _ _ _ _ _ _ => rfl⟩
  | k + 1 => by
    have ih := impl_ScanAll.ok k
    obtain ⟨i3, i6⟩ := ih
    refine ⟨?_, ?_⟩
    · intro x11 x12 x13 h65; rw [impl_ScanAll.c3]; exact (impl_ScanAll.t3 _ k x11 x12 x13 h65).trans (cd (cd (cd (i6 _ _ _ _ _ _ _ _) rfl) rfl) (cd rfl rfl))
    · intro x4 x11 x12 x13 x19 x20 x21 h65; rw [impl_ScanAll.c6]; exact (impl_ScanAll.t6 _ k x4 x11 x12 x13 x19 x20 x21 h65).trans (cd (cd (cd (bn (fun t1 => (cb (cd (cd (i6 _ _ _ _ _ _ _ _) rfl) (i6 _ _ _ _ _ _ _ _)) (i6 _ _ _ _ _ _ _ _)))) rfl) rfl) (i3 _ _ _ _))
set_option maxRecDepth 100000 in
theorem impl_ScanAll.oke (k : Nat) (a0_0 : List S48) : goF Tryz.f30 impl_ScanAll.ctx impl_ScanAll.sp 0 impl_ScanAll.en (k + 1) [.code (body Tryz.f30)] (startSt [.ag [.row 0 .t48 a0_0]] []) = (impl_ScanAll.f k a0_0).map impl_ScanAll.e := by
  obtain ⟨i3, i6⟩ := impl_ScanAll.ok k
  rw [impl_ScanAll.f]; exact (impl_ScanAll.te _ k a0_0).trans (i3 _ _ _ _)
theorem impl_ScanAll.con (k : Nat) (a0_0 : List S48) (r) (h : impl_ScanAll.f k a0_0 = some r) : Contract Tryz.prog kit 30 [.ag [.row 0 .t48 a0_0]] [] (impl_ScanAll.e r).1 (impl_ScanAll.e r).2.1 (impl_ScanAll.e r).2.2 :=
  con_okG kitOk mix (fun k => (CtxOk.cons (impl_ReadPage.xok k) CtxOk.nil)) (impl_ScanAll.oke k a0_0) h (by kernel_rfl) (by kernel_rfl) (by kernel_rfl) rfl (by kernel_rfl) rfl rfl
noncomputable def impl_ScanAll.x (k : Nat) : X := fun ins bs κ => match ins, bs with
  | [.ag [.row 0 .t48 a0_0]], [] => (impl_ScanAll.f k a0_0).bind fun r => κ (impl_ScanAll.e r).1 (impl_ScanAll.e r).2.1 (impl_ScanAll.e r).2.2
  | _, _ => none
theorem impl_ScanAll.xok (k : Nat) : XOk 30 (impl_ScanAll.x k) := by
  intro ins bs κ res h
  unfold impl_ScanAll.x at h
  split at h
  · obtain ⟨r, hr, h⟩ := Option.bind_eq_some_iff.1 h
    exact ⟨_, _, _, impl_ScanAll.con k _ r hr, h⟩
  · cases h
end Go.Proofs.YtmboeckendhdnaaGreat.M2

/- A function of the library that works on one row of one's own in place: its contract out of what a call of it does. -/
namespace Go.Proofs.YtmboeckendhdnaaGreat.M2
open Go Go.RowKit
set_option linter.unusedVariables false
set_option linter.unusedSimpArgs false
section
variable {Ty : Type} {D : Ty → Type} {P : Program} {K : Kit Ty D}
theorem blk1 {t : Ty} {l : List (D t)} {n : D t → Value} (he : ∀ x, K.emb t x = [.sc (n x)]) {H : Heap Ty D} {v : Nat} (h0 : H 0 = some (.rowb t l v)) (h1 : ∀ k, k ≠ 0 → H k = none) {nm : Nm} {b : Blk Ty D} (h : blkAt K H nm = some b) : nm = ⟨0, none⟩ ∧ b = .rowb t l v := by
  obtain ⟨id, sub⟩ := nm
  unfold blkAt at h
  cases sub with
  | none =>
    simp only at h
    by_cases e : id = 0
    · subst e; rw [h0] at h; exact ⟨rfl, (Option.some.inj h).symm⟩
    · rw [h1 id e] at h; cases h
  | some ij =>
    obtain ⟨i, j⟩ := ij
    simp only at h
    by_cases e : id = 0
    · subst e
      rw [h0] at h
      simp only at h
      cases hx : l[i]? with
      | none => rw [hx] at h; cases h
      | some x =>
        rw [hx] at h
        simp only [he] at h
        cases j <;> simp at h
    · rw [h1 id e] at h; cases h
/-- What the call does to the world: the row's block holds the new row, all else is as it was. -/
def RowCall (P : Program) (f : FuncId) (t : Ty) (n : D t → Value) (l l' : List (D t)) : Prop :=
  (∀ (w : World) (g o cap : Nat) (arr : Array Value) (e : TypeId), w.heap[g]? = some (.cells arr e (0, 0)) → o + cap ≤ arr.size → l.length ≤ cap → (∀ (i : Nat) x, l[i]? = some x → arr[o + i]? = some (n x)) →
    Calls P f #[.slice (some ⟨g, o, none⟩) l.length cap] w fun ev w' => ev = .returned (.tuple #[]) ∧ Kept w w' (· = g) ∧ ∃ arr', w'.heap[g]? = some (.cells arr' e (0, 0)) ∧ arr'.size = arr.size ∧ ∀ (i : Nat) x, l'[i]? = some x → arr'[o + i]? = some (n x)) ∧
  (l = [] → ∀ (w : World) (a : Option Addr), Calls P f #[.slice a 0 0] w fun ev w' => ev = .returned (.tuple #[]) ∧ w' = w)
theorem ext_row {f : FuncId} (hent : Go.Proofs.Enters P f) {t : Ty} {n : D t → Value} (hc : K.cells t = 1) (he : ∀ x, K.emb t x = [.sc (n x)]) (hs : ∀ x, scalar (n x) = true) {l l' : List (D t)} (hlen : l'.length = l.length) (h : RowCall P f t n l l') :
    Contract P K f [.sl 0 none] [.rowb t l 0] (.tu []) [some (.rowb t l' 0)] [] := by
  refine ⟨hent, rfl, fun w S γ args hl hS hsz hv => ?_⟩
  obtain ⟨u, rfl⟩ : ∃ u, args = #[u] := by
    match args, hsz with
    | ⟨[u]⟩, _ => exact ⟨u, rfl⟩
  have hu := (hv 0 u (.sl 0 none) rfl rfl).2
  have hb0 : hpOf [Blk.rowb t l 0] 0 = some (.rowb t l 0) := rfl
  have hb1 : ∀ k, k ≠ 0 → hpOf [Blk.rowb t l 0] k = none := fun k hk => by
    cases k with
    | zero => exact absurd rfl hk
    | succ k => rfl
  have hu2 : u = Go.Proofs.YtmboeckendhdnaaGreat.M2.hv (γ ⟨0, none⟩) l.length := hu.2 t l 0 hb0
  obtain ⟨hle, hcells⟩ := hl.ok ⟨0, none⟩ (.rowb t l 0) rfl
  have ob0 : hpBack [some (Blk.rowb t l' 0)] [] 0 = some (.rowb t l' 0) := rfl
  have ob1 : ∀ k, k ≠ 0 → hpBack [some (Blk.rowb t l' 0)] ([] : List (Blk Ty D)) k = none := fun k hk => by
    unfold hpBack; rw [if_neg (by simp; omega)]; simp
  -- what is one's own behind the call was one's own
  have own : ∀ g nm, Own K (hpBack [some (Blk.rowb t l' 0)] []) γ g nm → Own K (hpOf [Blk.rowb t l 0]) γ g nm := by
    rintro g nm ⟨⟨b, hb⟩, h1, h2⟩
    obtain ⟨rfl, _⟩ := blk1 he ob0 ob1 hb
    exact ⟨⟨_, rfl⟩, h1, h2⟩
  have fin : ∀ (w' : World), Kept w w' (fun g => ∃ nm, Own K (hpOf [Blk.rowb t l 0]) γ g nm) → NmOk K ⟨w', fun _ => S 1, hpBack [some (Blk.rowb t l' 0)] [], γ, (· < 1 + 0)⟩ ⟨0, none⟩ (.rowb t l' 0) →
      Lay K ⟨w', fun _ => S 1, hpBack [some (Blk.rowb t l' 0)] [], γ, (· < 1 + 0)⟩ := by
    intro w' hk hn
    refine ⟨fun nm b hb => ?_, fun g nm nm' a b => hl.inj g nm nm' (own g nm a) (own g nm' b), fun g hg => hg, fun g hg => ?_, fun id b hb => ?_⟩
    · obtain ⟨rfl, rfl⟩ := blk1 he ob0 ob1 hb; exact hn
    · obtain ⟨q1, q2⟩ := hl.frz g (hl.one g hg)
      exact ⟨Nat.lt_of_lt_of_le q1 hk.size, fun nm hO => q2 nm (own g nm hO)⟩
    · show id < 1 + 0
      by_cases e : id = 0
      · omega
      · have hb : hpBack [some (Blk.rowb t l' 0)] [] id = some b := hb
        rw [ob1 id e] at hb; cases hb
  have hle : l.length ≤ (γ ⟨0, none⟩).2 := hle
  have back : ∀ (k : Nat) (b : Blk Ty D), k < [Blk.rowb t l 0].length → hpBack [some (Blk.rowb t l' 0)] [] k = some b → γ ⟨k, none⟩ = γ ⟨k, none⟩ ∧ ∃ b0, [Blk.rowb t l 0][k]? = some b0 ∧ lenKept b0 b := by
    intro k b hk hb
    obtain rfl : k = 0 := by simp at hk; exact hk
    rw [ob0] at hb
    cases hb
    exact ⟨rfl, _, rfl, l', 0, rfl, hlen.symm⟩
  by_cases hz : 0 < (γ ⟨0, none⟩).2
  · obtain ⟨g, o, arr, e, e1, e2, e3, e4⟩ := hcells hz
    have hlt : g < w.heap.size := (Array.getElem?_eq_some_iff.1 e2).1
    rw [hc, Nat.mul_one] at e3
    have hcall := h.1 w g o (γ ⟨0, none⟩).2 arr e e2 e3 hle (fun i x hx => by
      obtain ⟨v, hv1, hv2⟩ := e4 i x hx 0 (.sc (n x)) (by rw [he]; rfl)
      have : v = n x := hv2.1
      rw [hc] at hv1
      rw [← this, ← hv1]; congr 1; omega)
    have eu : u = .slice (some ⟨g, o, none⟩) l.length (γ ⟨0, none⟩).2 := by rw [hu2]; unfold M2.hv; rw [e1]
    rw [eu]
    refine hcall.mono fun ev w' ⟨h1, h2, arr', h3, h4, h5⟩ => ?_
    have hOwn : Own K (hpOf [Blk.rowb t l 0]) γ g ⟨0, none⟩ := ⟨⟨_, rfl⟩, hz, o, e1⟩
    have hk : Kept w w' (fun g => ∃ nm, Own K (hpOf [Blk.rowb t l 0]) γ g nm) := ⟨h2.os, h2.tape, h2.output, h2.size, fun q hq hn => h2.block q hq (fun e => hn ⟨⟨0, none⟩, by rw [e]; exact hOwn⟩)⟩
    refine ⟨.tuple #[], γ, h1, fin w' hk ⟨by rw [hlen]; exact hle, fun _ => ⟨g, o, arr', e, e1, h3, by rw [hc, Nat.mul_one, h4]; exact e3, fun i x hx j c hj => ?_⟩⟩, by simp, ⟨[], rfl, rfl, by simp⟩, hk, fun q nm hO => .inr ⟨nm, own q nm hO⟩, back⟩
    rw [he] at hj
    cases j with
    | succ j => simp at hj
    | zero =>
      simp at hj; subst hj
      exact ⟨n x, by rw [hc]; rw [← h5 i x hx]; congr 1; omega, rfl, hs x⟩
  · have hz : (γ ⟨0, none⟩).2 = 0 := by omega
    have hl0 : l = [] := List.length_eq_zero_iff.1 (by omega)
    have hl0' : l' = [] := List.length_eq_zero_iff.1 (by rw [hlen, hl0]; rfl)
    have eu : u = .slice (γ ⟨0, none⟩).1 0 0 := by rw [hu2]; unfold M2.hv; rw [hz, hl0]; rfl
    rw [eu]
    refine (h.2 hl0 w _).mono fun ev w' ⟨h1, h2⟩ => ?_
    subst h2
    have hk : Kept w' w' (fun g => ∃ nm, Own K (hpOf [Blk.rowb t l 0]) γ g nm) := Kept.refl _ _
    refine ⟨.tuple #[], γ, h1, fin w' hk ⟨by rw [hl0']; exact Nat.zero_le _, fun hp => by have hp : 0 < (γ ⟨0, none⟩).2 := hp; omega⟩, by simp, ⟨[], rfl, rfl, by simp⟩, hk, fun q nm hO => .inr ⟨nm, own q nm hO⟩, back⟩
end
end Go.Proofs.YtmboeckendhdnaaGreat.M2

/- sort.Ints: over a row of the caller's own the call sorts it in place; out of the library's contract for the sort. -/
namespace Go.Proofs.YtmboeckendhdnaaGreat.M2
open Go Go.Shelf Go.RowKit Go.Sort Go.Proofs.YtmboeckendhdnaaGreat.PK
set_option linter.unusedVariables false
set_option linter.unusedSimpArgs false

noncomputable def lays191_ren : Go.Shelf.Ren := ⟨fun | 191 => 58 | 189 => 87 | 125 => 125 | 257 => 124 | 128 => 149 | 129 => 150 | 294 => 140 | 295 => 141 | 296 => 142 | 297 => 143 | 298 => 144 | 299 => 145 | 216 => 146 | 300 => 147 | 301 => 148 | 328 => 155 | 329 => 156 | 330 => 157 | 331 => 158 | 332 => 159 | 215 => 160 | 343 => 162 | n => n, fun | 28 => 83 | 0 => 0 | 3 => 3 | 46 => 151 | 51 => 136 | 53 => 171 | 4 => 4 | 183 => 163 | 182 => 162 | 131 => 167 | 5 => 5 | 9 => 9 | 218 => 172 | 222 => 176 | 228 => 178 | 229 => 179 | n => n, fun n => n⟩
theorem lays191 : Lays.n191 Tryz.prog lays191_ren where
  mixed := by kernel_rfl
  f125 := Tryz.func125.trans (congrArg some (by kernel_rfl))
  f128 := Tryz.func149.trans (congrArg some (by kernel_rfl))
  f129 := Tryz.func150.trans (congrArg some (by kernel_rfl))
  f189 := Tryz.func87.trans (congrArg some (by kernel_rfl))
  f191 := Tryz.func58.trans (congrArg some (by kernel_rfl))
  f215 := Tryz.func160.trans (congrArg some (by kernel_rfl))
  f216 := Tryz.func146.trans (congrArg some (by kernel_rfl))
  f257 := Tryz.func124.trans (congrArg some (by kernel_rfl))
  f294 := Tryz.func140.trans (congrArg some (by kernel_rfl))
  f295 := Tryz.func141.trans (congrArg some (by kernel_rfl))
  f296 := Tryz.func142.trans (congrArg some (by kernel_rfl))
  f297 := Tryz.func143.trans (congrArg some (by kernel_rfl))
  f298 := Tryz.func144.trans (congrArg some (by kernel_rfl))
  f299 := Tryz.func145.trans (congrArg some (by kernel_rfl))
  f300 := Tryz.func147.trans (congrArg some (by kernel_rfl))
  f301 := Tryz.func148.trans (congrArg some (by kernel_rfl))
  f328 := Tryz.func155.trans (congrArg some (by kernel_rfl))
  f329 := Tryz.func156.trans (congrArg some (by kernel_rfl))
  f330 := Tryz.func157.trans (congrArg some (by kernel_rfl))
  f331 := Tryz.func158.trans (congrArg some (by kernel_rfl))
  f332 := Tryz.func159.trans (congrArg some (by kernel_rfl))
  f343 := Tryz.func162.trans (congrArg some (by kernel_rfl))
  t0 := Tryz.underlying0
  a0 := Tryz.isAgg0
  z0 := Tryz.sizeOf0
  v0 := Tryz.zeroValue0
  t3 := Tryz.underlying3
  a3 := Tryz.isAgg3
  z3 := Tryz.sizeOf3
  v3 := Tryz.zeroValue3
  t4 := Tryz.underlying4
  a4 := Tryz.isAgg4
  z4 := Tryz.sizeOf4
  v4 := Tryz.zeroValue4
  t5 := Tryz.underlying5
  a5 := Tryz.isAgg5
  z5 := Tryz.sizeOf5
  v5 := Tryz.zeroValue5
  t9 := Tryz.underlying9
  a9 := Tryz.isAgg9
  z9 := Tryz.sizeOf9
  v9 := Tryz.zeroValue9
  t28 := Tryz.underlying83
  a28 := Tryz.isAgg83
  z28 := Tryz.sizeOf83
  v28 := Tryz.zeroValue83
  t46 := Tryz.underlying151
  a46 := Tryz.isAgg151
  z46 := Tryz.sizeOf151
  v46 := Tryz.zeroValue151
  t51 := Tryz.underlying136
  a51 := Tryz.isAgg136
  z51 := Tryz.sizeOf136
  v51 := Tryz.zeroValue136
  t53 := Tryz.underlying171
  a53 := Tryz.isAgg171
  z53 := Tryz.sizeOf171
  v53 := Tryz.zeroValue171
  t131 := Tryz.underlying167
  a131 := Tryz.isAgg167
  z131 := Tryz.sizeOf167
  v131 := Tryz.zeroValue167
  t182 := Tryz.underlying162
  a182 := Tryz.isAgg162
  z182 := Tryz.sizeOf162
  v182 := Tryz.zeroValue162
  t183 := Tryz.underlying163
  a183 := Tryz.isAgg163
  z183 := Tryz.sizeOf163
  v183 := Tryz.zeroValue163
  t218 := Tryz.underlying172
  a218 := Tryz.isAgg172
  z218 := Tryz.sizeOf172
  v218 := Tryz.zeroValue172
  t222 := Tryz.underlying176
  a222 := Tryz.isAgg176
  z222 := Tryz.sizeOf176
  v222 := Tryz.zeroValue176
  t228 := Tryz.underlying178
  a228 := Tryz.isAgg178
  z228 := Tryz.sizeOf178
  v228 := Tryz.zeroValue178
  t229 := Tryz.underlying179
  a229 := Tryz.isAgg179
  z229 := Tryz.sizeOf179
  v229 := Tryz.zeroValue179

def sortI (l : List Int) : List Int := l.mergeSort fun x y => decide (x ≤ y)
def sort_Ints.f (_ : Nat) (l0 : List Int) : Option (List Int) := if l0.length < 4611686018427387904 then some (sortI l0) else none
theorem sort_Ints.row (l : List Int) (hlt : l.length < 4611686018427387904) : RowCall (D := D) Tryz.prog 58 .t3 (fun x : Int => Value.int .i64 x) l (sortI l) := by
  have hlen : (sortI l).length = l.length := List.length_mergeSort l
  refine ⟨fun w g o cap arr e hb hcap hle hc => ?_, fun hl w a => by subst hl; exact Any.sort_Ints_none lays191 a 0 w⟩
  have hle : (l : List Int).length ≤ cap := hle
  have hH : Holds (Value.int .i64) w g o (l : List Int).toArray := by
    intro j hj
    have hj' : j < (l : List Int).length := by simpa using hj
    refine ⟨?_, by simp [World.frozen?, hb]⟩
    have h1 := hc j _ (List.getElem?_eq_getElem hj')
    simp only [World.cell?, hb, Option.isSome_none, Bool.false_eq_true, if_false]
    rw [h1]; simp [List.getElem?_eq_getElem hj']
  have hg : g < w.heap.size := (Array.getElem?_eq_some_iff.1 hb).1
  refine (Any.sort_Ints lays191 g o cap l w hH hg hlt).mono fun ev w' ⟨he, n, os, hw⟩ => ?_
  subst hw
  have hh : (grow (putRow (Value.int .i64) (Sort.ahead w n) g o (sortI l).toArray) os).heap[g]? = some (.cells (putCells (Value.int .i64) o (sortI l).toArray arr) e (0, 0)) := by
    rw [heap_grow_old _ _ (by simpa using hg)]
    simp [putRow, mapBlock, Sort.ahead, Array.getElem?_modify, hb, onCells]
  refine ⟨he, ⟨rfl, rfl, rfl, by simp, fun k hk hne => ?_⟩, _, hh, by simp [putCells], fun i x hx => ?_⟩
  · rw [heap_grow_old _ _ (by simpa using hk)]
    have : g ≠ k := fun e => hne e.symm
    simp [putRow, mapBlock, Sort.ahead, Array.getElem?_modify, this]
  · have hi : i < (sortI l).length := (List.getElem?_eq_some_iff.1 hx).1
    have hx' : (sortI l)[i] = x := (List.getElem?_eq_some_iff.1 hx).2
    have hs : o + i < arr.size := by omega
    simp [putCells, hs, hi, hx', List.getElem?_eq_getElem hi]
    rfl
theorem sort_Ints.con (k : Nat) (l r : List Int) (h : sort_Ints.f k l = some r) : Contract Tryz.prog kit 58 [.sl 0 none] [.rowb .t3 l 0] (.tu []) [some (.rowb .t3 r 0)] [] := by
  unfold sort_Ints.f at h
  split at h
  · rename_i hlt
    cases h
    exact ext_row (K := kit) (D := D) (t := .t3) (n := fun x : Int => Value.int .i64 x) (enters_of Tryz.func58 (by kernel_rfl) (by kernel_rfl : Tryz.f58.body = some (body Tryz.f58))) rfl (fun x => rfl) (fun x => rfl) (List.length_mergeSort l) (sort_Ints.row l hlt)
  · cases h
noncomputable def sort_Ints.x (k : Nat) : X := fun ins bs κ => match ins, bs with
  | [.sl 0 none], [.rowb .t3 l 0] => (sort_Ints.f k l).bind fun r => κ (.tu []) [some (.rowb .t3 r 0)] []
  | _, _ => none
theorem sort_Ints.xok (k : Nat) : XOk 58 (sort_Ints.x k) := by
  intro ins bs κ res h
  unfold sort_Ints.x at h
  split at h
  · obtain ⟨r, hr, h⟩ := Option.bind_eq_some_iff.1 h
    exact ⟨_, _, _, sort_Ints.con k _ r hr, h⟩
  · cases h
end Go.Proofs.YtmboeckendhdnaaGreat.M2

/- Plain runs of functions: each is a plain Lean function, and keeps its contract. Written by a program of this session. -/
namespace Go.Proofs.YtmboeckendhdnaaGreat.M2
open Go Go.Proofs.YtmboeckendhdnaaGreat.PK
set_option linter.unusedVariables false
set_option linter.unusedSimpArgs false
set_option maxHeartbeats 4000000
/-! ### impl_copyFlash: function 31 -/
noncomputable def impl_copyFlash.sp : Nat → Option (Spec Ty) := fun r => bif Nat.beq r 3 then some ⟨[(2, .box [.own .t48]), (3, .box [.own .t48]), (7, .keep), (8, .keep), (9, .keep)], []⟩ else none
noncomputable def impl_copyFlash.en : Option (Spec Ty) := some ⟨[(2, .box [.own .t48])], []⟩
noncomputable def impl_copyFlash.s3 (x7 : List S48) (x8 : Int) (x9 : Int) (h65 : List S48) (h67 : List S48) : St Ty D := ⟨(Env.put (Env.put (Env.put (Env.put (Env.put E (some 2) (.pt 64 0 0)) (some 3) (.pt 66 0 0)) (some 7) (.row 0 .t48 x7)) (some 8) (.sc (.int .i64 x8))) (some 9) (.sc (.int .i64 x9))), Heap.put H0 [(65, some (.rowb .t48 h65 0)), (64, some (.box [.sl 65 none])), (67, some (.rowb .t48 h67 0)), (66, some (.box [.sl 67 none]))], 1000⟩
noncomputable def impl_copyFlash.ctx (k : Nat) : Ctx Ty D := (fun _ _ _ _ => none)
noncomputable def impl_copyFlash.c3 : Nat → (List S48) → Int → Int → (List S48) → (List S48) → Option ((List S48))
  | 0, _, _, _, _, _ => none
  | k + 1, x7, x8, x9, h65, h67 => (if x9 < x8 then (if 0 ≤ x9 then (if x9 < (x7.length : Int) then (if ([] : List S76).length + ((rd_T48 x7 x9).f2).length ≤ 5864062014805 then (if h67.length + ([(S48.mk ((rd_T48 x7 x9).f0) ((rd_T48 x7 x9).f1) (([] : List S76) ++ ((rd_T48 x7 x9).f2)))] : List S48).length ≤ 3518437208883 then (impl_copyFlash.c3 k x7 x8 (w64 (x9 + 1)) h65 (h67 ++ ([(S48.mk ((rd_T48 x7 x9).f0) ((rd_T48 x7 x9).f1) (([] : List S76) ++ ((rd_T48 x7 x9).f2)))] : List S48))) else none) else none) else none) else none) else (some (h67)))
noncomputable def impl_copyFlash.f (k : Nat) (a0_0 : List S48) : Option ((List S48)) := (impl_copyFlash.c3 k a0_0 (a0_0.length : Int) 0 ([] : List S48) ([] : List S48))
noncomputable def impl_copyFlash.e (r : (List S48)) : Res Ty D := (.ag [.sl 0 none], [], [.rowb .t48 r 0])
noncomputable abbrev impl_copyFlash.g (rec : List Item → St Ty D → R) (k : Nat) := go1 Tryz.f31 (impl_copyFlash.ctx k) impl_copyFlash.sp 0 impl_copyFlash.en rec
set_option maxRecDepth 100000 in
theorem impl_copyFlash.t3 (rec : List Item → St Ty D → R) (k : Nat) (x7 : List S48) (x8 : Int) (x9 : Int) (h65 : List S48) (h67 : List S48) : impl_copyFlash.g rec k (td Tryz.f31 3) (impl_copyFlash.s3 x7 x8 x9 h65 h67) =
  bif decide (x9 < x8) then bif decide (0 ≤ x9) then bif decide (x9 < (x7.length : Int)) then bif decide (([] : List S76).length + ((rd_T48 x7 x9).f2).length ≤ 5864062014805) then bif decide (h67.length + ([(S48.mk ((rd_T48 x7 x9).f0) ((rd_T48 x7 x9).f1) (([] : List S76) ++ ((rd_T48 x7 x9).f2)))] : List S48).length ≤ 3518437208883) then rec (td Tryz.f31 3) (impl_copyFlash.s3 x7 x8 (w64 (x9 + 1)) h65 (h67 ++ ([(S48.mk ((rd_T48 x7 x9).f0) ((rd_T48 x7 x9).f1) (([] : List S76) ++ ((rd_T48 x7 x9).f2)))] : List S48))) else none else none else none else none else some (impl_copyFlash.e (h67)) := by kernel_rfl
set_option maxRecDepth 100000 in
theorem impl_copyFlash.te (rec : List Item → St Ty D → R) (k : Nat) (a0_0 : List S48) : impl_copyFlash.g rec k [.code (body Tryz.f31)] (startSt [.ag [.row 0 .t48 a0_0]] []) =
  rec (td Tryz.f31 3) (impl_copyFlash.s3 a0_0 (a0_0.length : Int) 0 ([] : List S48) ([] : List S48)) := by kernel_rfl
set_option maxRecDepth 100000 in
theorem impl_copyFlash.ok : ∀ k : Nat, (∀ (x7 : List S48) (x8 : Int) (x9 : Int) (h65 : List S48) (h67 : List S48), goF Tryz.f31 impl_copyFlash.ctx impl_copyFlash.sp 0 impl_copyFlash.en k (td Tryz.f31 3) (impl_copyFlash.s3 x7 x8 x9 h65 h67) = (impl_copyFlash.c3 k x7 x8 x9 h65 h67).map impl_copyFlash.e)
  | 0 => fun _ _ _ _ _ => rfl
  | k + 1 => by
    have ih := impl_copyFlash.ok k
    have i3 := ih
    intro x7 x8 x9 h65 h67; rw [impl_copyFlash.c3]; exact (impl_copyFlash.t3 _ k x7 x8 x9 h65 h67).trans (cd (cd (cd (cd (cd (i3 _ _ _ _ _) rfl) rfl) rfl) rfl) rfl)
set_option maxRecDepth 100000 in
theorem impl_copyFlash.oke (k : Nat) (a0_0 : List S48) : goF Tryz.f31 impl_copyFlash.ctx impl_copyFlash.sp 0 impl_copyFlash.en (k + 1) [.code (body Tryz.f31)] (startSt [.ag [.row 0 .t48 a0_0]] []) = (impl_copyFlash.f k a0_0).map impl_copyFlash.e := by
  have i3 := impl_copyFlash.ok k
  rw [impl_copyFlash.f]; exact (impl_copyFlash.te _ k a0_0).trans (i3 _ _ _ _ _)
theorem impl_copyFlash.con (k : Nat) (a0_0 : List S48) (r) (h : impl_copyFlash.f k a0_0 = some r) : Contract Tryz.prog kit 31 [.ag [.row 0 .t48 a0_0]] [] (impl_copyFlash.e r).1 (impl_copyFlash.e r).2.1 (impl_copyFlash.e r).2.2 :=
  con_okG kitOk mix (fun k => CtxOk.nil) (impl_copyFlash.oke k a0_0) h (by kernel_rfl) (by kernel_rfl) (by kernel_rfl) rfl (by kernel_rfl) rfl rfl
noncomputable def impl_copyFlash.x (k : Nat) : X := fun ins bs κ => match ins, bs with
  | [.ag [.row 0 .t48 a0_0]], [] => (impl_copyFlash.f k a0_0).bind fun r => κ (impl_copyFlash.e r).1 (impl_copyFlash.e r).2.1 (impl_copyFlash.e r).2.2
  | _, _ => none
theorem impl_copyFlash.xok (k : Nat) : XOk 31 (impl_copyFlash.x k) := by
  intro ins bs κ res h
  unfold impl_copyFlash.x at h
  split at h
  · obtain ⟨r, hr, h⟩ := Option.bind_eq_some_iff.1 h
    exact ⟨_, _, _, impl_copyFlash.con k _ r hr, h⟩
  · cases h

/-! ### impl_StoreNew: function 32 -/
noncomputable def impl_StoreNew.sp : Nat → Option (Spec Ty) := fun r => none
noncomputable def impl_StoreNew.en : Option (Spec Ty) := some ⟨[(0, .box [.own .t96, .own .t132, .keep])], []⟩
noncomputable def impl_StoreNew.ctx (k : Nat) : Ctx Ty D := (fun _ _ _ _ => none)
noncomputable def impl_StoreNew.f (k : Nat) : Option ((List S96) × (List S132) × Int) := (some (([] : List S96), ([] : List S132), 1))
noncomputable def impl_StoreNew.e (r : (List S96) × (List S132) × Int) : Res Ty D := (.ag [.sl 0 none, .sl 1 none, .sc (.int .i64 r.2.2)], [], [.rowb .t96 r.1 0, .rowb .t132 r.2.1 0])
noncomputable abbrev impl_StoreNew.g (rec : List Item → St Ty D → R) (k : Nat) := go1 Tryz.f32 (impl_StoreNew.ctx k) impl_StoreNew.sp 0 impl_StoreNew.en rec
set_option maxRecDepth 100000 in
theorem impl_StoreNew.te (rec : List Item → St Ty D → R) (k : Nat) : impl_StoreNew.g rec k [.code (body Tryz.f32)] (startSt [] []) =
  some (impl_StoreNew.e (([] : List S96), ([] : List S132), 1)) := by kernel_rfl
set_option maxRecDepth 100000 in
theorem impl_StoreNew.oke (k : Nat) : goF Tryz.f32 impl_StoreNew.ctx impl_StoreNew.sp 0 impl_StoreNew.en (k + 1) [.code (body Tryz.f32)] (startSt [] []) = (impl_StoreNew.f k).map impl_StoreNew.e := by
  rw [impl_StoreNew.f]; exact (impl_StoreNew.te _ k).trans rfl
theorem impl_StoreNew.con (k : Nat) (r) (h : impl_StoreNew.f k = some r) : Contract Tryz.prog kit 32 [] [] (impl_StoreNew.e r).1 (impl_StoreNew.e r).2.1 (impl_StoreNew.e r).2.2 :=
  con_okG kitOk mix (fun k => CtxOk.nil) (impl_StoreNew.oke k) h (by kernel_rfl) (by kernel_rfl) (by kernel_rfl) rfl (by kernel_rfl) rfl rfl
noncomputable def impl_StoreNew.x (k : Nat) : X := fun ins bs κ => match ins, bs with
  | [], [] => (impl_StoreNew.f k).bind fun r => κ (impl_StoreNew.e r).1 (impl_StoreNew.e r).2.1 (impl_StoreNew.e r).2.2
  | _, _ => none
theorem impl_StoreNew.xok (k : Nat) : XOk 32 (impl_StoreNew.x k) := by
  intro ins bs κ res h
  unfold impl_StoreNew.x at h
  split at h
  · obtain ⟨r, hr, h⟩ := Option.bind_eq_some_iff.1 h
    exact ⟨_, _, _, impl_StoreNew.con k r hr, h⟩
  · cases h

/-! ### impl_LastSeq: function 33 -/
noncomputable def impl_LastSeq.sp : Nat → Option (Spec Ty) := fun r => bif Nat.beq r 3 then some ⟨[(3, .keep), (7, .own .t57), (8, .keep), (9, .keep)], []⟩ else none
noncomputable def impl_LastSeq.en : Option (Spec Ty) := none
noncomputable def impl_LastSeq.s3 (x3 : Int) (x8 : Int) (x9 : Int) (h64 : List S57) : St Ty D := ⟨(Env.put (Env.put (Env.put (Env.put E (some 3) (.sc (.int .i64 x3))) (some 7) (.sl 64 none)) (some 8) (.sc (.int .i64 x8))) (some 9) (.sc (.int .i64 x9))), Heap.put H0 [(64, some (.rowb .t57 h64 0))], 1000⟩
noncomputable def impl_LastSeq.ctx (k : Nat) : Ctx Ty D := (cons 30 (impl_ScanAll.x k) (fun _ _ _ _ => none))
noncomputable def impl_LastSeq.c3 : Nat → Int → Int → Int → (List S57) → Option (Int)
  | 0, _, _, _, _ => none
  | k + 1, x3, x8, x9, h64 => (if x9 < x8 then (if 0 ≤ x9 then (if x9 < (h64.length : Int) then (impl_LastSeq.c3 k (maxI x3 ((rd_T57 h64 x9).f2.f1)) x8 (w64 (x9 + 1)) h64) else none) else none) else (some (x3)))
noncomputable def impl_LastSeq.f (k : Nat) (a0_0 : List S48) : Option (Int) := ((impl_ScanAll.f k a0_0).bind fun t1 => (impl_LastSeq.c3 k 0 (t1.length : Int) 0 t1))
noncomputable def impl_LastSeq.e (r : Int) : Res Ty D := (.sc (.int .i64 r), [], [])
noncomputable abbrev impl_LastSeq.g (rec : List Item → St Ty D → R) (k : Nat) := go1 Tryz.f33 (impl_LastSeq.ctx k) impl_LastSeq.sp 0 impl_LastSeq.en rec
set_option maxRecDepth 100000 in
theorem impl_LastSeq.t3 (rec : List Item → St Ty D → R) (k : Nat) (x3 : Int) (x8 : Int) (x9 : Int) (h64 : List S57) : impl_LastSeq.g rec k (td Tryz.f33 3) (impl_LastSeq.s3 x3 x8 x9 h64) =
  bif decide (x9 < x8) then bif decide (0 ≤ x9) then bif decide (x9 < (h64.length : Int)) then rec (td Tryz.f33 3) (impl_LastSeq.s3 (maxI x3 ((rd_T57 h64 x9).f2.f1)) x8 (w64 (x9 + 1)) h64) else none else none else some (impl_LastSeq.e (x3)) := by kernel_rfl
set_option maxRecDepth 100000 in
theorem impl_LastSeq.te (rec : List Item → St Ty D → R) (k : Nat) (a0_0 : List S48) : impl_LastSeq.g rec k [.code (body Tryz.f33)] (startSt [.ag [.row 0 .t48 a0_0]] []) =
  (impl_ScanAll.f k a0_0).bind fun t1 => rec (td Tryz.f33 3) (impl_LastSeq.s3 0 (t1.length : Int) 0 t1) := by kernel_rfl
set_option maxRecDepth 100000 in
theorem impl_LastSeq.ok : ∀ k : Nat, (∀ (x3 : Int) (x8 : Int) (x9 : Int) (h64 : List S57), goF Tryz.f33 impl_LastSeq.ctx impl_LastSeq.sp 0 impl_LastSeq.en k (td Tryz.f33 3) (impl_LastSeq.s3 x3 x8 x9 h64) = (impl_LastSeq.c3 k x3 x8 x9 h64).map impl_LastSeq.e)
  | 0 => fun _ _ _ _ => rfl
  | k + 1 => by
    have ih := impl_LastSeq.ok k
    have i3 := ih
    intro x3 x8 x9 h64; rw [impl_LastSeq.c3]; exact (impl_LastSeq.t3 _ k x3 x8 x9 h64).trans (cd (cd (cd (i3 _ _ _ _) rfl) rfl) rfl)
set_option maxRecDepth 100000 in
theorem impl_LastSeq.oke (k : Nat) (a0_0 : List S48) : goF Tryz.f33 impl_LastSeq.ctx impl_LastSeq.sp 0 impl_LastSeq.en (k + 1) [.code (body Tryz.f33)] (startSt [.ag [.row 0 .t48 a0_0]] []) = (impl_LastSeq.f k a0_0).map impl_LastSeq.e := by
  have i3 := impl_LastSeq.ok k
  rw [impl_LastSeq.f]; exact (impl_LastSeq.te _ k a0_0).trans (bn (fun t1 => (i3 _ _ _ _)))
theorem impl_LastSeq.con (k : Nat) (a0_0 : List S48) (r) (h : impl_LastSeq.f k a0_0 = some r) : Contract Tryz.prog kit 33 [.ag [.row 0 .t48 a0_0]] [] (impl_LastSeq.e r).1 (impl_LastSeq.e r).2.1 (impl_LastSeq.e r).2.2 :=
  con_okG kitOk mix (fun k => (CtxOk.cons (impl_ScanAll.xok k) CtxOk.nil)) (impl_LastSeq.oke k a0_0) h (by kernel_rfl) (by kernel_rfl) (by kernel_rfl) rfl (by kernel_rfl) rfl rfl
noncomputable def impl_LastSeq.x (k : Nat) : X := fun ins bs κ => match ins, bs with
  | [.ag [.row 0 .t48 a0_0]], [] => (impl_LastSeq.f k a0_0).bind fun r => κ (impl_LastSeq.e r).1 (impl_LastSeq.e r).2.1 (impl_LastSeq.e r).2.2
  | _, _ => none
theorem impl_LastSeq.xok (k : Nat) : XOk 33 (impl_LastSeq.x k) := by
  intro ins bs κ res h
  unfold impl_LastSeq.x at h
  split at h
  · obtain ⟨r, hr, h⟩ := Option.bind_eq_some_iff.1 h
    exact ⟨_, _, _, impl_LastSeq.con k _ r hr, h⟩
  · cases h

/-! ### impl_isBase: function 56 -/
noncomputable def impl_isBase.sp : Nat → Option (Spec Ty) := fun r => none
noncomputable def impl_isBase.en : Option (Spec Ty) := none
noncomputable def impl_isBase.ctx (k : Nat) : Ctx Ty D := (fun _ _ _ _ => none)
noncomputable def impl_isBase.f (k : Nat) (a0_0 : Int) (a0_1 : Int) (a0_2 : List S82) : Option (Bool) := (if (a0_2.length : Int) > 0 then (if 0 < (a0_2.length : Int) then (some ((decide (((rd_T82 a0_2 0).f0) = 1)))) else none) else (some (false)))
noncomputable def impl_isBase.e (r : Bool) : Res Ty D := (.sc (.bool r), [], [])
noncomputable abbrev impl_isBase.g (rec : List Item → St Ty D → R) (k : Nat) := go1 Tryz.f56 (impl_isBase.ctx k) impl_isBase.sp 0 impl_isBase.en rec
set_option maxRecDepth 100000 in
theorem impl_isBase.te (rec : List Item → St Ty D → R) (k : Nat) (a0_0 : Int) (a0_1 : Int) (a0_2 : List S82) : impl_isBase.g rec k [.code (body Tryz.f56)] (startSt [.ag [.sc (.int .i64 a0_0), .sc (.int .i64 a0_1), .row 0 .t82 a0_2]] []) =
  bif decide ((a0_2.length : Int) > 0) then bif decide (0 < (a0_2.length : Int)) then some (impl_isBase.e ((decide (((rd_T82 a0_2 0).f0) = 1)))) else none else some (impl_isBase.e (false)) := by kernel_rfl
set_option maxRecDepth 100000 in
theorem impl_isBase.oke (k : Nat) (a0_0 : Int) (a0_1 : Int) (a0_2 : List S82) : goF Tryz.f56 impl_isBase.ctx impl_isBase.sp 0 impl_isBase.en (k + 1) [.code (body Tryz.f56)] (startSt [.ag [.sc (.int .i64 a0_0), .sc (.int .i64 a0_1), .row 0 .t82 a0_2]] []) = (impl_isBase.f k a0_0 a0_1 a0_2).map impl_isBase.e := by
  rw [impl_isBase.f]; exact (impl_isBase.te _ k a0_0 a0_1 a0_2).trans (cd (cd rfl rfl) rfl)
theorem impl_isBase.con (k : Nat) (a0_0 : Int) (a0_1 : Int) (a0_2 : List S82) (r) (h : impl_isBase.f k a0_0 a0_1 a0_2 = some r) : Contract Tryz.prog kit 56 [.ag [.sc (.int .i64 a0_0), .sc (.int .i64 a0_1), .row 0 .t82 a0_2]] [] (impl_isBase.e r).1 (impl_isBase.e r).2.1 (impl_isBase.e r).2.2 :=
  con_okG kitOk mix (fun k => CtxOk.nil) (impl_isBase.oke k a0_0 a0_1 a0_2) h (by kernel_rfl) (by kernel_rfl) (by kernel_rfl) rfl (by kernel_rfl) rfl rfl
noncomputable def impl_isBase.x (k : Nat) : X := fun ins bs κ => match ins, bs with
  | [.ag [.sc (.int .i64 a0_0), .sc (.int .i64 a0_1), .row 0 .t82 a0_2]], [] => (impl_isBase.f k a0_0 a0_1 a0_2).bind fun r => κ (impl_isBase.e r).1 (impl_isBase.e r).2.1 (impl_isBase.e r).2.2
  | _, _ => none
theorem impl_isBase.xok (k : Nat) : XOk 56 (impl_isBase.x k) := by
  intro ins bs κ res h
  unfold impl_isBase.x at h
  split at h
  · obtain ⟨r, hr, h⟩ := Option.bind_eq_some_iff.1 h
    exact ⟨_, _, _, impl_isBase.con k _ _ _ r hr, h⟩
  · cases h

/-! ### impl_SinceBase: function 34 -/
noncomputable def impl_SinceBase.sp : Nat → Option (Spec Ty) := fun r => bif Nat.beq r 3 then some ⟨[(0, .keep), (3, .keep), (9, .keep), (10, .keep), (11, .keep)], []⟩ else bif Nat.beq r 10 then some ⟨[(6, .own .t63), (22, .keep), (23, .keep), (24, .keep)], []⟩ else none
noncomputable def impl_SinceBase.en : Option (Spec Ty) := some ⟨[(2, .own .t63)], []⟩
noncomputable def impl_SinceBase.s3 (x0 : List S63) (x3 : Int) (x9 : List S63) (x10 : Int) (x11 : Int) : St Ty D := ⟨(Env.put (Env.put (Env.put (Env.put (Env.put E (some 0) (.row 0 .t63 x0)) (some 3) (.sc (.int .i64 x3))) (some 9) (.row 0 .t63 x9)) (some 10) (.sc (.int .i64 x10))) (some 11) (.sc (.int .i64 x11))), H0, 1000⟩
noncomputable def impl_SinceBase.s10 (x22 : List S63) (x23 : Int) (x24 : Int) (h64 : List S63) : St Ty D := ⟨(Env.put (Env.put (Env.put (Env.put E (some 6) (.sl 64 none)) (some 22) (.row 0 .t63 x22)) (some 23) (.sc (.int .i64 x23))) (some 24) (.sc (.int .i64 x24))), Heap.put H0 [(64, some (.rowb .t63 h64 0))], 1000⟩
noncomputable def impl_SinceBase.ctx (k : Nat) : Ctx Ty D := (cons 56 (impl_isBase.x k) (fun _ _ _ _ => none))
mutual
noncomputable def impl_SinceBase.c3 : Nat → (List S63) → Int → (List S63) → Int → Int → Option ((List S63))
  | 0, _, _, _, _, _ => none
  | k + 1, x0, x3, x9, x10, x11 => (if x11 < x10 then (if 0 ≤ x11 then (if x11 < (x9.length : Int) then ((impl_isBase.f k ((rd_T63 x9 x11).f0) ((rd_T63 x9 x11).f1) ((rd_T63 x9 x11).f2)).bind fun t1 => (if t1 = true then (impl_SinceBase.c3 k x0 x11 x9 x10 (w64 (x11 + 1))) else (impl_SinceBase.c3 k x0 x3 x9 x10 (w64 (x11 + 1))))) else none) else none) else (if 0 ≤ x3 then (if x3 ≤ (x0.length : Int) then (impl_SinceBase.c10 k ((x0.take x0.length).drop x3.toNat) (((x0.take x0.length).drop x3.toNat).length : Int) 0 ([] : List S63)) else none) else none))
noncomputable def impl_SinceBase.c10 : Nat → (List S63) → Int → Int → (List S63) → Option ((List S63))
  | 0, _, _, _, _ => none
  | k + 1, x22, x23, x24, h64 => (if x24 < x23 then (if 0 ≤ x24 then (if x24 < (x22.length : Int) then (if ([] : List S82).length + ((rd_T63 x22 x24).f2).length ≤ 4398046511104 then (if h64.length + ([(S63.mk ((rd_T63 x22 x24).f0) ((rd_T63 x22 x24).f1) (([] : List S82) ++ ((rd_T63 x22 x24).f2)))] : List S63).length ≤ 3518437208883 then (impl_SinceBase.c10 k x22 x23 (w64 (x24 + 1)) (h64 ++ ([(S63.mk ((rd_T63 x22 x24).f0) ((rd_T63 x22 x24).f1) (([] : List S82) ++ ((rd_T63 x22 x24).f2)))] : List S63))) else none) else none) else none) else none) else (some (h64)))
end
noncomputable def impl_SinceBase.f (k : Nat) (a0 : List S63) : Option ((List S63)) := (impl_SinceBase.c3 k a0 0 a0 (a0.length : Int) 0)
noncomputable def impl_SinceBase.e (r : (List S63)) : Res Ty D := (.sl 0 none, [], [.rowb .t63 r 0])
noncomputable abbrev impl_SinceBase.g (rec : List Item → St Ty D → R) (k : Nat) := go1 Tryz.f34 (impl_SinceBase.ctx k) impl_SinceBase.sp 0 impl_SinceBase.en rec
set_option maxRecDepth 100000 in
theorem impl_SinceBase.t3 (rec : List Item → St Ty D → R) (k : Nat) (x0 : List S63) (x3 : Int) (x9 : List S63) (x10 : Int) (x11 : Int) : impl_SinceBase.g rec k (td Tryz.f34 3) (impl_SinceBase.s3 x0 x3 x9 x10 x11) =
  bif decide (x11 < x10) then bif decide (0 ≤ x11) then bif decide (x11 < (x9.length : Int)) then (impl_isBase.f k ((rd_T63 x9 x11).f0) ((rd_T63 x9 x11).f1) ((rd_T63 x9 x11).f2)).bind fun t1 => bif t1 then rec (td Tryz.f34 3) (impl_SinceBase.s3 x0 x11 x9 x10 (w64 (x11 + 1))) else rec (td Tryz.f34 3) (impl_SinceBase.s3 x0 x3 x9 x10 (w64 (x11 + 1))) else none else none else bif decide (0 ≤ x3) then bif decide (x3 ≤ (x0.length : Int)) then rec (td Tryz.f34 10) (impl_SinceBase.s10 ((x0.take x0.length).drop x3.toNat) (((x0.take x0.length).drop x3.toNat).length : Int) 0 ([] : List S63)) else none else none := by kernel_rfl
set_option maxRecDepth 100000 in
theorem impl_SinceBase.t10 (rec : List Item → St Ty D → R) (k : Nat) (x22 : List S63) (x23 : Int) (x24 : Int) (h64 : List S63) : impl_SinceBase.g rec k (td Tryz.f34 10) (impl_SinceBase.s10 x22 x23 x24 h64) =
  bif decide (x24 < x23) then bif decide (0 ≤ x24) then bif decide (x24 < (x22.length : Int)) then bif decide (([] : List S82).length + ((rd_T63 x22 x24).f2).length ≤ 4398046511104) then bif decide (h64.length + ([(S63.mk ((rd_T63 x22 x24).f0) ((rd_T63 x22 x24).f1) (([] : List S82) ++ ((rd_T63 x22 x24).f2)))] : List S63).length ≤ 3518437208883) then rec (td Tryz.f34 10) (impl_SinceBase.s10 x22 x23 (w64 (x24 + 1)) (h64 ++ ([(S63.mk ((rd_T63 x22 x24).f0) ((rd_T63 x22 x24).f1) (([] : List S82) ++ ((rd_T63 x22 x24).f2)))] : List S63))) else none else none else none else none else some (impl_SinceBase.e (h64)) := by kernel_rfl
set_option maxRecDepth 100000 in
theorem impl_SinceBase.te (rec : List Item → St Ty D → R) (k : Nat) (a0 : List S63) : impl_SinceBase.g rec k [.code (body Tryz.f34)] (startSt [.row 0 .t63 a0] []) =
  rec (td Tryz.f34 3) (impl_SinceBase.s3 a0 0 a0 (a0.length : Int) 0) := by kernel_rfl
set_option maxRecDepth 100000 in
theorem impl_SinceBase.ok : ∀ k : Nat, (∀ (x0 : List S63) (x3 : Int) (x9 : List S63) (x10 : Int) (x11 : Int), goF Tryz.f34 impl_SinceBase.ctx impl_SinceBase.sp 0 impl_SinceBase.en k (td Tryz.f34 3) (impl_SinceBase.s3 x0 x3 x9 x10 x11) = (impl_SinceBase.c3 k x0 x3 x9 x10 x11).map impl_SinceBase.e) ∧ (∀ (x22 : List S63) (x23 : Int) (x24 : Int) (h64 : List S63), goF Tryz.f34 impl_SinceBase.ctx impl_SinceBase.sp 0 impl_SinceBase.en k (td Tryz.f34 10) (impl_SinceBase.s10 x22 x23 x24 h64) = (impl_SinceBase.c10 k x22 x23 x24 h64).map impl_SinceBase.e)
  | 0 => ⟨fun _ _ _ _ _ => rfl, fun _ _ _ _ => rfl⟩
  | k + 1 => by
    have ih := impl_SinceBase.ok k
    obtain ⟨i3, i10⟩ := ih
    refine ⟨?_, ?_⟩
    · intro x0 x3 x9 x10 x11; rw [impl_SinceBase.c3]; exact (impl_SinceBase.t3 _ k x0 x3 x9 x10 x11).trans (cd (cd (cd (bn (fun t1 => (cb (i3 _ _ _ _ _) (i3 _ _ _ _ _)))) rfl) rfl) (cd (cd (i10 _ _ _ _) rfl) rfl))
    · intro x22 x23 x24 h64; rw [impl_SinceBase.c10]; exact (impl_SinceBase.t10 _ k x22 x23 x24 h64).trans (cd (cd (cd (cd (cd (i10 _ _ _ _) rfl) rfl) rfl) rfl) rfl)
set_option maxRecDepth 100000 in
theorem impl_SinceBase.oke (k : Nat) (a0 : List S63) : goF Tryz.f34 impl_SinceBase.ctx impl_SinceBase.sp 0 impl_SinceBase.en (k + 1) [.code (body Tryz.f34)] (startSt [.row 0 .t63 a0] []) = (impl_SinceBase.f k a0).map impl_SinceBase.e := by
  obtain ⟨i3, i10⟩ := impl_SinceBase.ok k
  rw [impl_SinceBase.f]; exact (impl_SinceBase.te _ k a0).trans (i3 _ _ _ _ _)
theorem impl_SinceBase.con (k : Nat) (a0 : List S63) (r) (h : impl_SinceBase.f k a0 = some r) : Contract Tryz.prog kit 34 [.row 0 .t63 a0] [] (impl_SinceBase.e r).1 (impl_SinceBase.e r).2.1 (impl_SinceBase.e r).2.2 :=
  con_okG kitOk mix (fun k => (CtxOk.cons (impl_isBase.xok k) CtxOk.nil)) (impl_SinceBase.oke k a0) h (by kernel_rfl) (by kernel_rfl) (by kernel_rfl) rfl (by kernel_rfl) rfl rfl
noncomputable def impl_SinceBase.x (k : Nat) : X := fun ins bs κ => match ins, bs with
  | [.row 0 .t63 a0], [] => (impl_SinceBase.f k a0).bind fun r => κ (impl_SinceBase.e r).1 (impl_SinceBase.e r).2.1 (impl_SinceBase.e r).2.2
  | _, _ => none
theorem impl_SinceBase.xok (k : Nat) : XOk 34 (impl_SinceBase.x k) := by
  intro ins bs κ res h
  unfold impl_SinceBase.x at h
  split at h
  · obtain ⟨r, hr, h⟩ := Option.bind_eq_some_iff.1 h
    exact ⟨_, _, _, impl_SinceBase.con k _ r hr, h⟩
  · cases h

/-! ### impl_hasInt: function 57 -/
noncomputable def impl_hasInt.sp : Nat → Option (Spec Ty) := fun r => bif Nat.beq r 2 then some ⟨[(1, .keep), (7, .keep), (8, .keep), (9, .keep)], []⟩ else none
noncomputable def impl_hasInt.en : Option (Spec Ty) := none
noncomputable def impl_hasInt.s2 (x1 : Int) (x7 : List Int) (x8 : Int) (x9 : Int) : St Ty D := ⟨(Env.put (Env.put (Env.put (Env.put E (some 1) (.sc (.int .i64 x1))) (some 7) (.row 0 .t3 x7)) (some 8) (.sc (.int .i64 x8))) (some 9) (.sc (.int .i64 x9))), H0, 1000⟩
noncomputable def impl_hasInt.ctx (k : Nat) : Ctx Ty D := (fun _ _ _ _ => none)
noncomputable def impl_hasInt.c2 : Nat → Int → (List Int) → Int → Int → Option (Bool)
  | 0, _, _, _, _ => none
  | k + 1, x1, x7, x8, x9 => (if x9 < x8 then (if 0 ≤ x9 then (if x9 < (x7.length : Int) then (if (rd_T3 x7 x9) = x1 then (some (true)) else (impl_hasInt.c2 k x1 x7 x8 (w64 (x9 + 1)))) else none) else none) else (some (false)))
noncomputable def impl_hasInt.f (k : Nat) (a0 : List Int) (a1 : Int) : Option (Bool) := (impl_hasInt.c2 k a1 a0 (a0.length : Int) 0)
noncomputable def impl_hasInt.e (r : Bool) : Res Ty D := (.sc (.bool r), [], [])
noncomputable abbrev impl_hasInt.g (rec : List Item → St Ty D → R) (k : Nat) := go1 Tryz.f57 (impl_hasInt.ctx k) impl_hasInt.sp 0 impl_hasInt.en rec
set_option maxRecDepth 100000 in
theorem impl_hasInt.t2 (rec : List Item → St Ty D → R) (k : Nat) (x1 : Int) (x7 : List Int) (x8 : Int) (x9 : Int) : impl_hasInt.g rec k (td Tryz.f57 2) (impl_hasInt.s2 x1 x7 x8 x9) =
  bif decide (x9 < x8) then bif decide (0 ≤ x9) then bif decide (x9 < (x7.length : Int)) then bif decide ((rd_T3 x7 x9) = x1) then some (impl_hasInt.e (true)) else rec (td Tryz.f57 2) (impl_hasInt.s2 x1 x7 x8 (w64 (x9 + 1))) else none else none else some (impl_hasInt.e (false)) := by kernel_rfl
set_option maxRecDepth 100000 in
theorem impl_hasInt.te (rec : List Item → St Ty D → R) (k : Nat) (a0 : List Int) (a1 : Int) : impl_hasInt.g rec k [.code (body Tryz.f57)] (startSt [.row 0 .t3 a0, .sc (.int .i64 a1)] []) =
  rec (td Tryz.f57 2) (impl_hasInt.s2 a1 a0 (a0.length : Int) 0) := by kernel_rfl
set_option maxRecDepth 100000 in
theorem impl_hasInt.ok : ∀ k : Nat, (∀ (x1 : Int) (x7 : List Int) (x8 : Int) (x9 : Int), goF Tryz.f57 impl_hasInt.ctx impl_hasInt.sp 0 impl_hasInt.en k (td Tryz.f57 2) (impl_hasInt.s2 x1 x7 x8 x9) = (impl_hasInt.c2 k x1 x7 x8 x9).map impl_hasInt.e)
  | 0 => fun _ _ _ _ => rfl
  | k + 1 => by
    have ih := impl_hasInt.ok k
    have i2 := ih
    intro x1 x7 x8 x9; rw [impl_hasInt.c2]; exact (impl_hasInt.t2 _ k x1 x7 x8 x9).trans (cd (cd (cd (cd rfl (i2 _ _ _ _)) rfl) rfl) rfl)
set_option maxRecDepth 100000 in
theorem impl_hasInt.oke (k : Nat) (a0 : List Int) (a1 : Int) : goF Tryz.f57 impl_hasInt.ctx impl_hasInt.sp 0 impl_hasInt.en (k + 1) [.code (body Tryz.f57)] (startSt [.row 0 .t3 a0, .sc (.int .i64 a1)] []) = (impl_hasInt.f k a0 a1).map impl_hasInt.e := by
  have i2 := impl_hasInt.ok k
  rw [impl_hasInt.f]; exact (impl_hasInt.te _ k a0 a1).trans (i2 _ _ _ _)
theorem impl_hasInt.con (k : Nat) (a0 : List Int) (a1 : Int) (r) (h : impl_hasInt.f k a0 a1 = some r) : Contract Tryz.prog kit 57 [.row 0 .t3 a0, .sc (.int .i64 a1)] [] (impl_hasInt.e r).1 (impl_hasInt.e r).2.1 (impl_hasInt.e r).2.2 :=
  con_okG kitOk mix (fun k => CtxOk.nil) (impl_hasInt.oke k a0 a1) h (by kernel_rfl) (by kernel_rfl) (by kernel_rfl) rfl (by kernel_rfl) rfl rfl
noncomputable def impl_hasInt.x (k : Nat) : X := fun ins bs κ => match ins, bs with
  | [.row 0 .t3 a0, .sc (.int .i64 a1)], [] => (impl_hasInt.f k a0 a1).bind fun r => κ (impl_hasInt.e r).1 (impl_hasInt.e r).2.1 (impl_hasInt.e r).2.2
  | _, _ => none
theorem impl_hasInt.xok (k : Nat) : XOk 57 (impl_hasInt.x k) := by
  intro ins bs κ res h
  unfold impl_hasInt.x at h
  split at h
  · obtain ⟨r, hr, h⟩ := Option.bind_eq_some_iff.1 h
    exact ⟨_, _, _, impl_hasInt.con k _ _ r hr, h⟩
  · cases h

/-! ### impl_Gather: function 35 -/
noncomputable def impl_Gather.sp : Nat → Option (Spec Ty) := fun r => bif Nat.beq r 3 then some ⟨[(0, .keep), (3, .own .t3), (11, .keep), (12, .keep), (13, .keep)], []⟩ else bif Nat.beq r 11 then some ⟨[(0, .keep), (6, .own .t63), (38, .own .t3), (39, .keep), (40, .keep)], []⟩ else none
noncomputable def impl_Gather.en : Option (Spec Ty) := some ⟨[(2, .own .t63)], []⟩
noncomputable def impl_Gather.s3 (x0 : List S57) (x11 : List S57) (x12 : Int) (x13 : Int) (h64 : List Int) : St Ty D := ⟨(Env.put (Env.put (Env.put (Env.put (Env.put E (some 0) (.row 0 .t57 x0)) (some 3) (.sl 64 none)) (some 11) (.row 0 .t57 x11)) (some 12) (.sc (.int .i64 x12))) (some 13) (.sc (.int .i64 x13))), Heap.put H0 [(64, some (.rowb .t3 h64 0))], 1000⟩
noncomputable def impl_Gather.s11 (x0 : List S57) (x39 : Int) (x40 : Int) (h64 : List S63) (h65 : List Int) : St Ty D := ⟨(Env.put (Env.put (Env.put (Env.put (Env.put E (some 0) (.row 0 .t57 x0)) (some 6) (.sl 64 none)) (some 38) (.sl 65 none)) (some 39) (.sc (.int .i64 x39))) (some 40) (.sc (.int .i64 x40))), Heap.put H0 [(64, some (.rowb .t63 h64 0)), (65, some (.rowb .t3 h65 0))], 1000⟩
noncomputable def impl_Gather.ctx (k : Nat) : Ctx Ty D := (cons 57 (impl_hasInt.x k) (cons 58 (sort_Ints.x k) (fun _ _ _ _ => none)))
mutual
noncomputable def impl_Gather.c3 : Nat → (List S57) → (List S57) → Int → Int → (List Int) → Option ((List S63))
  | 0, _, _, _, _, _ => none
  | k + 1, x0, x11, x12, x13, h64 => (if x13 < x12 then (if 0 ≤ x13 then (if x13 < (x11.length : Int) then (if ((rd_T57 x11 x13).f2.f0) = 2 then ((impl_hasInt.f k h64 ((rd_T57 x11 x13).f2.f2)).bind fun t1 => (if t1 = true then (impl_Gather.c3 k x0 x11 x12 (w64 (x13 + 1)) h64) else (if h64.length + ([(rd_T57 x11 x13).f2.f2] : List Int).length ≤ 17592186044416 then (impl_Gather.c3 k x0 x11 x12 (w64 (x13 + 1)) (h64 ++ ([(rd_T57 x11 x13).f2.f2] : List Int))) else none))) else (impl_Gather.c3 k x0 x11 x12 (w64 (x13 + 1)) h64)) else none) else none) else ((sort_Ints.f k h64).bind fun t2 => (impl_Gather.c11 k x0 (t2.length : Int) 0 ([] : List S63) t2)))
noncomputable def impl_Gather.c11 : Nat → (List S57) → Int → Int → (List S63) → (List Int) → Option ((List S63))
  | 0, _, _, _, _, _ => none
  | k + 1, x0, x39, x40, h64, h65 => (if x40 < x39 then (if 0 ≤ x40 then (if x40 < (h65.length : Int) then none else none) else none) else (some (h64)))
end
noncomputable def impl_Gather.f (k : Nat) (a0 : List S57) : Option ((List S63)) := (impl_Gather.c3 k a0 a0 (a0.length : Int) 0 ([] : List Int))
noncomputable def impl_Gather.e (r : (List S63)) : Res Ty D := (.sl 0 none, [], [.rowb .t63 r 0])
noncomputable abbrev impl_Gather.g (rec : List Item → St Ty D → R) (k : Nat) := go1 Tryz.f35 (impl_Gather.ctx k) impl_Gather.sp 0 impl_Gather.en rec
set_option maxRecDepth 100000 in
theorem impl_Gather.t3 (rec : List Item → St Ty D → R) (k : Nat) (x0 : List S57) (x11 : List S57) (x12 : Int) (x13 : Int) (h64 : List Int) : impl_Gather.g rec k (td Tryz.f35 3) (impl_Gather.s3 x0 x11 x12 x13 h64) =
  bif decide (x13 < x12) then bif decide (0 ≤ x13) then bif decide (x13 < (x11.length : Int)) then bif decide (((rd_T57 x11 x13).f2.f0) = 2) then (impl_hasInt.f k h64 ((rd_T57 x11 x13).f2.f2)).bind fun t1 => bif !t1 then bif decide (h64.length + ([(rd_T57 x11 x13).f2.f2] : List Int).length ≤ 17592186044416) then rec (td Tryz.f35 3) (impl_Gather.s3 x0 x11 x12 (w64 (x13 + 1)) (h64 ++ ([(rd_T57 x11 x13).f2.f2] : List Int))) else none else rec (td Tryz.f35 3) (impl_Gather.s3 x0 x11 x12 (w64 (x13 + 1)) h64) else rec (td Tryz.f35 3) (impl_Gather.s3 x0 x11 x12 (w64 (x13 + 1)) h64) else none else none else (sort_Ints.f k h64).bind fun t2 => rec (td Tryz.f35 11) (impl_Gather.s11 x0 (t2.length : Int) 0 ([] : List S63) t2) := by kernel_rfl
set_option maxRecDepth 100000 in
theorem impl_Gather.t11 (rec : List Item → St Ty D → R) (k : Nat) (x0 : List S57) (x39 : Int) (x40 : Int) (h64 : List S63) (h65 : List Int) : impl_Gather.g rec k (td Tryz.f35 11) (impl_Gather.s11 x0 x39 x40 h64 h65) =
  bif decide (x40 < x39) then bif decide (0 ≤ x40) then bif decide (x40 < (h65.length : Int)) then none else none else none else some (impl_Gather.e (h64)) := by kernel_rfl
set_option maxRecDepth 100000 in
theorem impl_Gather.te (rec : List Item → St Ty D → R) (k : Nat) (a0 : List S57) : impl_Gather.g rec k [.code (body Tryz.f35)] (startSt [.row 0 .t57 a0] []) =
  rec (td Tryz.f35 3) (impl_Gather.s3 a0 a0 (a0.length : Int) 0 ([] : List Int)) := by kernel_rfl
set_option maxRecDepth 100000 in
theorem impl_Gather.ok : ∀ k : Nat, (∀ (x0 : List S57) (x11 : List S57) (x12 : Int) (x13 : Int) (h64 : List Int), goF Tryz.f35 impl_Gather.ctx impl_Gather.sp 0 impl_Gather.en k (td Tryz.f35 3) (impl_Gather.s3 x0 x11 x12 x13 h64) = (impl_Gather.c3 k x0 x11 x12 x13 h64).map impl_Gather.e) ∧ (∀ (x0 : List S57) (x39 : Int) (x40 : Int) (h64 : List S63) (h65 : List Int), goF Tryz.f35 impl_Gather.ctx impl_Gather.sp 0 impl_Gather.en k (td Tryz.f35 11) (impl_Gather.s11 x0 x39 x40 h64 h65) = (impl_Gather.c11 k x0 x39 x40 h64 h65).map impl_Gather.e)
  | 0 => ⟨fun _ _ _ _ _ => rfl, fun _ _ _ _ _ => rfl⟩
  | k + 1 => by
    have ih := impl_Gather.ok k
    obtain ⟨i3, i11⟩ := ih
    refine ⟨?_, ?_⟩
    · intro x0 x11 x12 x13 h64; rw [impl_Gather.c3]; exact (impl_Gather.t3 _ k x0 x11 x12 x13 h64).trans (cd (cd (cd (cd (bn (fun t1 => (nb (cd (i3 _ _ _ _ _) rfl) (i3 _ _ _ _ _)))) (i3 _ _ _ _ _)) rfl) rfl) (bn (fun t2 => (i11 _ _ _ _ _))))
    · intro x0 x39 x40 h64 h65; rw [impl_Gather.c11]; exact (impl_Gather.t11 _ k x0 x39 x40 h64 h65).trans (cd (cd (cd rfl rfl) rfl) rfl)
set_option maxRecDepth 100000 in
theorem impl_Gather.oke (k : Nat) (a0 : List S57) : goF Tryz.f35 impl_Gather.ctx impl_Gather.sp 0 impl_Gather.en (k + 1) [.code (body Tryz.f35)] (startSt [.row 0 .t57 a0] []) = (impl_Gather.f k a0).map impl_Gather.e := by
  obtain ⟨i3, i11⟩ := impl_Gather.ok k
  rw [impl_Gather.f]; exact (impl_Gather.te _ k a0).trans (i3 _ _ _ _ _)
theorem impl_Gather.con (k : Nat) (a0 : List S57) (r) (h : impl_Gather.f k a0 = some r) : Contract Tryz.prog kit 35 [.row 0 .t57 a0] [] (impl_Gather.e r).1 (impl_Gather.e r).2.1 (impl_Gather.e r).2.2 :=
  con_okG kitOk mix (fun k => (CtxOk.cons (impl_hasInt.xok k) (CtxOk.cons (sort_Ints.xok k) CtxOk.nil))) (impl_Gather.oke k a0) h (by kernel_rfl) (by kernel_rfl) (by kernel_rfl) rfl (by kernel_rfl) rfl rfl
noncomputable def impl_Gather.x (k : Nat) : X := fun ins bs κ => match ins, bs with
  | [.row 0 .t57 a0], [] => (impl_Gather.f k a0).bind fun r => κ (impl_Gather.e r).1 (impl_Gather.e r).2.1 (impl_Gather.e r).2.2
  | _, _ => none
theorem impl_Gather.xok (k : Nat) : XOk 35 (impl_Gather.x k) := by
  intro ins bs κ res h
  unfold impl_Gather.x at h
  split at h
  · obtain ⟨r, hr, h⟩ := Option.bind_eq_some_iff.1 h
    exact ⟨_, _, _, impl_Gather.con k _ r hr, h⟩
  · cases h

/-! ### impl_MountAll: function 12 -/
noncomputable def impl_MountAll.sp : Nat → Option (Spec Ty) := fun r => bif Nat.beq r 6 then some ⟨[(2, .box [.own .t48, .own .t96, .own .t132, .keep, .keep, .keep, .keep]), (4, .own .t57), (5, .box [.own .t48, .own .t96, .own .t132, .keep, .keep, .keep, .keep]), (25, .own .t57), (26, .keep), (27, .keep)], []⟩ else bif Nat.beq r 12 then some ⟨[(2, .box [.own .t48, .own .t96, .own .t132, .keep, .keep, .keep, .keep]), (5, .box [.own .t48, .own .t96, .own .t132, .keep, .keep, .keep, .keep]), (46, .own .t63), (47, .keep), (48, .keep)], []⟩ else none
noncomputable def impl_MountAll.en : Option (Spec Ty) := some ⟨[(2, .box [.own .t48, .own .t96, .own .t132, .keep, .keep, .keep, .keep]), (3, .keep)], []⟩
noncomputable def impl_MountAll.s6 (x26 : Int) (x27 : Int) (h65 : List S48) (h66 : List S96) (h67 : List S132) (h64_3 : Int) (h64_4 : Int) (h64_5 : Int) (h64_6 : Int) (h68 : List S57) (h70 : List S48) (h71 : List S96) (h72 : List S132) (h69_3 : Int) (h69_4 : Int) (h69_5 : Int) (h69_6 : Int) : St Ty D := ⟨(Env.put (Env.put (Env.put (Env.put (Env.put (Env.put E (some 2) (.pt 64 0 0)) (some 4) (.sl 68 none)) (some 5) (.pt 69 0 0)) (some 25) (.sl 68 none)) (some 26) (.sc (.int .i64 x26))) (some 27) (.sc (.int .i64 x27))), Heap.put H0 [(65, some (.rowb .t48 h65 0)), (66, some (.rowb .t96 h66 0)), (67, some (.rowb .t132 h67 0)), (64, some (.box [.sl 65 none, .sl 66 none, .sl 67 none, .sc (.int .i64 h64_3), .sc (.int .i64 h64_4), .sc (.int .i64 h64_5), .sc (.int .i64 h64_6)])), (68, some (.rowb .t57 h68 0)), (70, some (.rowb .t48 h70 0)), (71, some (.rowb .t96 h71 0)), (72, some (.rowb .t132 h72 0)), (69, some (.box [.sl 70 none, .sl 71 none, .sl 72 none, .sc (.int .i64 h69_3), .sc (.int .i64 h69_4), .sc (.int .i64 h69_5), .sc (.int .i64 h69_6)]))], 1000⟩
noncomputable def impl_MountAll.s12 (x47 : Int) (x48 : Int) (h65 : List S48) (h66 : List S96) (h67 : List S132) (h64_3 : Int) (h64_4 : Int) (h64_5 : Int) (h64_6 : Int) (h69 : List S48) (h70 : List S96) (h71 : List S132) (h68_3 : Int) (h68_4 : Int) (h68_5 : Int) (h68_6 : Int) (h72 : List S63) : St Ty D := ⟨(Env.put (Env.put (Env.put (Env.put (Env.put E (some 2) (.pt 64 0 0)) (some 5) (.pt 68 0 0)) (some 46) (.sl 72 none)) (some 47) (.sc (.int .i64 x47))) (some 48) (.sc (.int .i64 x48))), Heap.put H0 [(65, some (.rowb .t48 h65 0)), (66, some (.rowb .t96 h66 0)), (67, some (.rowb .t132 h67 0)), (64, some (.box [.sl 65 none, .sl 66 none, .sl 67 none, .sc (.int .i64 h64_3), .sc (.int .i64 h64_4), .sc (.int .i64 h64_5), .sc (.int .i64 h64_6)])), (69, some (.rowb .t48 h69 0)), (70, some (.rowb .t96 h70 0)), (71, some (.rowb .t132 h71 0)), (68, some (.box [.sl 69 none, .sl 70 none, .sl 71 none, .sc (.int .i64 h68_3), .sc (.int .i64 h68_4), .sc (.int .i64 h68_5), .sc (.int .i64 h68_6)])), (72, some (.rowb .t63 h72 0))], 1000⟩
noncomputable def impl_MountAll.ctx (k : Nat) : Ctx Ty D := (cons 29 (impl_FlashOk.x k) (cons 30 (impl_ScanAll.x k) (cons 31 (impl_copyFlash.x k) (cons 32 (impl_StoreNew.x k) (cons 33 (impl_LastSeq.x k) (cons 34 (impl_SinceBase.x k) (cons 35 (impl_Gather.x k) (fun _ _ _ _ => none))))))))
mutual
noncomputable def impl_MountAll.c6 : Nat → Int → Int → (List S48) → (List S96) → (List S132) → Int → Int → Int → Int → (List S57) → (List S48) → (List S96) → (List S132) → Int → Int → Int → Int → Option ((List S48) × (List S96) × (List S132) × Int × Int × Int × Int × Bool)
  | 0, _, _, _, _, _, _, _, _, _, _, _, _, _, _, _, _, _ => none
  | k + 1, x26, x27, h65, h66, h67, h64_3, h64_4, h64_5, h64_6, h68, h70, h71, h72, h69_3, h69_4, h69_5, h69_6 => (if x27 < x26 then (if 0 ≤ x27 then (if x27 < (h68.length : Int) then (if ((rd_T57 h68 x27).f2.f0) = 2 then (impl_MountAll.c6 k x26 (w64 (x27 + 1)) h65 h66 h67 h64_3 h64_4 h64_5 h64_6 h68 h70 h71 h72 h69_3 h69_4 (maxI h69_5 (w64 (((rd_T57 h68 x27).f2.f2) + 1))) h69_6) else (impl_MountAll.c6 k x26 (w64 (x27 + 1)) h65 h66 h67 h64_3 h64_4 h64_5 h64_6 h68 h70 h71 h72 h69_3 h69_4 h69_5 h69_6)) else none) else none) else ((impl_Gather.f k h68).bind fun t6 => ((impl_SinceBase.f k t6).bind fun t7 => (impl_MountAll.c12 k (t7.length : Int) 0 h65 h66 h67 h64_3 h64_4 h64_5 h64_6 h70 h71 h72 h69_3 h69_4 h69_5 h69_6 t7))))
noncomputable def impl_MountAll.c12 : Nat → Int → Int → (List S48) → (List S96) → (List S132) → Int → Int → Int → Int → (List S48) → (List S96) → (List S132) → Int → Int → Int → Int → (List S63) → Option ((List S48) × (List S96) × (List S132) × Int × Int × Int × Int × Bool)
  | 0, _, _, _, _, _, _, _, _, _, _, _, _, _, _, _, _, _ => none
  | k + 1, x47, x48, h65, h66, h67, h64_3, h64_4, h64_5, h64_6, h69, h70, h71, h68_3, h68_4, h68_5, h68_6, h72 => (if x48 < x47 then (if 0 ≤ x48 then (if x48 < (h72.length : Int) then (if x48 = 0 then none else none) else none) else none) else (some (h69, h70, h71, h68_3, h68_4, h68_5, h68_6, true)))
end
noncomputable def impl_MountAll.f (k : Nat) (a0_0 : List S48) : Option ((List S48) × (List S96) × (List S132) × Int × Int × Int × Int × Bool) := ((impl_FlashOk.f k a0_0).bind fun t1 => (if t1 = true then ((impl_ScanAll.f k a0_0).bind fun t2 => ((impl_copyFlash.f k a0_0).bind fun t3 => ((impl_StoreNew.f k).bind fun t4 => ((impl_LastSeq.f k a0_0).bind fun t5 => (impl_MountAll.c6 k (t2.length : Int) 0 ([] : List S48) ([] : List S96) ([] : List S132) 0 0 0 0 t2 t3 t4.1 t4.2.1 t4.2.2 (w64 (t5 + 1)) 1 0))))) else (some (([] : List S48), ([] : List S96), ([] : List S132), 0, 0, 0, 0, false))))
noncomputable def impl_MountAll.e (r : (List S48) × (List S96) × (List S132) × Int × Int × Int × Int × Bool) : Res Ty D := (.tu [.ag [.sl 0 none, .sl 1 none, .sl 2 none, .sc (.int .i64 r.2.2.2.1), .sc (.int .i64 r.2.2.2.2.1), .sc (.int .i64 r.2.2.2.2.2.1), .sc (.int .i64 r.2.2.2.2.2.2.1)], .sc (.bool r.2.2.2.2.2.2.2)], [], [.rowb .t48 r.1 0, .rowb .t96 r.2.1 0, .rowb .t132 r.2.2.1 0])
noncomputable abbrev impl_MountAll.g (rec : List Item → St Ty D → R) (k : Nat) := go1 Tryz.f12 (impl_MountAll.ctx k) impl_MountAll.sp 0 impl_MountAll.en rec
set_option maxRecDepth 100000 in
theorem impl_MountAll.t6 (rec : List Item → St Ty D → R) (k : Nat) (x26 : Int) (x27 : Int) (h65 : List S48) (h66 : List S96) (h67 : List S132) (h64_3 : Int) (h64_4 : Int) (h64_5 : Int) (h64_6 : Int) (h68 : List S57) (h70 : List S48) (h71 : List S96) (h72 : List S132) (h69_3 : Int) (h69_4 : Int) (h69_5 : Int) (h69_6 : Int) : impl_MountAll.g rec k (td Tryz.f12 6) (impl_MountAll.s6 x26 x27 h65 h66 h67 h64_3 h64_4 h64_5 h64_6 h68 h70 h71 h72 h69_3 h69_4 h69_5 h69_6) =
  bif decide (x27 < x26) then bif decide (0 ≤ x27) then bif decide (x27 < (h68.length : Int)) then bif decide (((rd_T57 h68 x27).f2.f0) = 2) then rec (td Tryz.f12 6) (impl_MountAll.s6 x26 (w64 (x27 + 1)) h65 h66 h67 h64_3 h64_4 h64_5 h64_6 h68 h70 h71 h72 h69_3 h69_4 (maxI h69_5 (w64 (((rd_T57 h68 x27).f2.f2) + 1))) h69_6) else rec (td Tryz.f12 6) (impl_MountAll.s6 x26 (w64 (x27 + 1)) h65 h66 h67 h64_3 h64_4 h64_5 h64_6 h68 h70 h71 h72 h69_3 h69_4 h69_5 h69_6) else none else none else (impl_Gather.f k h68).bind fun t6 => (impl_SinceBase.f k t6).bind fun t7 => rec (td Tryz.f12 12) (impl_MountAll.s12 (t7.length : Int) 0 h65 h66 h67 h64_3 h64_4 h64_5 h64_6 h70 h71 h72 h69_3 h69_4 h69_5 h69_6 t7) := by kernel_rfl
set_option maxRecDepth 100000 in
theorem impl_MountAll.t12 (rec : List Item → St Ty D → R) (k : Nat) (x47 : Int) (x48 : Int) (h65 : List S48) (h66 : List S96) (h67 : List S132) (h64_3 : Int) (h64_4 : Int) (h64_5 : Int) (h64_6 : Int) (h69 : List S48) (h70 : List S96) (h71 : List S132) (h68_3 : Int) (h68_4 : Int) (h68_5 : Int) (h68_6 : Int) (h72 : List S63) : impl_MountAll.g rec k (td Tryz.f12 12) (impl_MountAll.s12 x47 x48 h65 h66 h67 h64_3 h64_4 h64_5 h64_6 h69 h70 h71 h68_3 h68_4 h68_5 h68_6 h72) =
  bif decide (x48 < x47) then bif decide (0 ≤ x48) then bif decide (x48 < (h72.length : Int)) then bif decide (x48 = 0) then none else none else none else none else some (impl_MountAll.e (h69, h70, h71, h68_3, h68_4, h68_5, h68_6, true)) := by kernel_rfl
set_option maxRecDepth 100000 in
theorem impl_MountAll.te (rec : List Item → St Ty D → R) (k : Nat) (a0_0 : List S48) : impl_MountAll.g rec k [.code (body Tryz.f12)] (startSt [.ag [.row 0 .t48 a0_0]] []) =
  (impl_FlashOk.f k a0_0).bind fun t1 => bif !t1 then some (impl_MountAll.e (([] : List S48), ([] : List S96), ([] : List S132), 0, 0, 0, 0, false)) else (impl_ScanAll.f k a0_0).bind fun t2 => (impl_copyFlash.f k a0_0).bind fun t3 => (impl_StoreNew.f k).bind fun t4 => (impl_LastSeq.f k a0_0).bind fun t5 => rec (td Tryz.f12 6) (impl_MountAll.s6 (t2.length : Int) 0 ([] : List S48) ([] : List S96) ([] : List S132) 0 0 0 0 t2 t3 t4.1 t4.2.1 t4.2.2 (w64 (t5 + 1)) 1 0) := by kernel_rfl
set_option maxRecDepth 100000 in
theorem impl_MountAll.ok : ∀ k : Nat, (∀ (x26 : Int) (x27 : Int) (h65 : List S48) (h66 : List S96) (h67 : List S132) (h64_3 : Int) (h64_4 : Int) (h64_5 : Int) (h64_6 : Int) (h68 : List S57) (h70 : List S48) (h71 : List S96) (h72 : List S132) (h69_3 : Int) (h69_4 : Int) (h69_5 : Int) (h69_6 : Int), goF Tryz.f12 impl_MountAll.ctx impl_MountAll.sp 0 impl_MountAll.en k (td Tryz.f12 6) (impl_MountAll.s6 x26 x27 h65 h66 h67 h64_3 h64_4 h64_5 h64_6 h68 h70 h71 h72 h69_3 h69_4 h69_5 h69_6) = (impl_MountAll.c6 k x26 x27 h65 h66 h67 h64_3 h64_4 h64_5 h64_6 h68 h70 h71 h72 h69_3 h69_4 h69_5 h69_6).map impl_MountAll.e) ∧ (∀ (x47 : Int) (x48 : Int) (h65 : List S48) (h66 : List S96) (h67 : List S132) (h64_3 : Int) (h64_4 : Int) (h64_5 : Int) (h64_6 : Int) (h69 : List S48) (h70 : List S96) (h71 : List S132) (h68_3 : Int) (h68_4 : Int) (h68_5 : Int) (h68_6 : Int) (h72 : List S63), goF Tryz.f12 impl_MountAll.ctx impl_MountAll.sp 0 impl_MountAll.en k (td Tryz.f12 12) (impl_MountAll.s12 x47 x48 h65 h66 h67 h64_3 h64_4 h64_5 h64_6 h69 h70 h71 h68_3 h68_4 h68_5 h68_6 h72) = (impl_MountAll.c12 k x47 x48 h65 h66 h67 h64_3 h64_4 h64_5 h64_6 h69 h70 h71 h68_3 h68_4 h68_5 h68_6 h72).map impl_MountAll.e)
  | 0 => ⟨fun _ _ _ _ _ _ _ _ _ _ _ _ _ _ _ _ _ => rfl, fun _ _ _ _ _ _ _ _ _ _ _ _ _ _ _ _ _ => rfl⟩
  | k + 1 => by
    have ih := impl_MountAll.ok k
    obtain ⟨i6, i12⟩ := ih
    refine ⟨?_, ?_⟩
    · intro x26 x27 h65 h66 h67 h64_3 h64_4 h64_5 h64_6 h68 h70 h71 h72 h69_3 h69_4 h69_5 h69_6; rw [impl_MountAll.c6]; exact (impl_MountAll.t6 _ k x26 x27 h65 h66 h67 h64_3 h64_4 h64_5 h64_6 h68 h70 h71 h72 h69_3 h69_4 h69_5 h69_6).trans (cd (cd (cd (cd (i6 _ _ _ _ _ _ _ _ _ _ _ _ _ _ _ _ _) (i6 _ _ _ _ _ _ _ _ _ _ _ _ _ _ _ _ _)) rfl) rfl) (bn (fun t6 => (bn (fun t7 => (i12 _ _ _ _ _ _ _ _ _ _ _ _ _ _ _ _ _))))))
    · intro x47 x48 h65 h66 h67 h64_3 h64_4 h64_5 h64_6 h69 h70 h71 h68_3 h68_4 h68_5 h68_6 h72; rw [impl_MountAll.c12]; exact (impl_MountAll.t12 _ k x47 x48 h65 h66 h67 h64_3 h64_4 h64_5 h64_6 h69 h70 h71 h68_3 h68_4 h68_5 h68_6 h72).trans (cd (cd (cd (cd rfl rfl) rfl) rfl) rfl)
set_option maxRecDepth 100000 in
theorem impl_MountAll.oke (k : Nat) (a0_0 : List S48) : goF Tryz.f12 impl_MountAll.ctx impl_MountAll.sp 0 impl_MountAll.en (k + 1) [.code (body Tryz.f12)] (startSt [.ag [.row 0 .t48 a0_0]] []) = (impl_MountAll.f k a0_0).map impl_MountAll.e := by
  obtain ⟨i6, i12⟩ := impl_MountAll.ok k
  rw [impl_MountAll.f]; exact (impl_MountAll.te _ k a0_0).trans (bn (fun t1 => (nb rfl (bn (fun t2 => (bn (fun t3 => (bn (fun t4 => (bn (fun t5 => (i6 _ _ _ _ _ _ _ _ _ _ _ _ _ _ _ _ _))))))))))))
theorem impl_MountAll.con (k : Nat) (a0_0 : List S48) (r) (h : impl_MountAll.f k a0_0 = some r) : Contract Tryz.prog kit 12 [.ag [.row 0 .t48 a0_0]] [] (impl_MountAll.e r).1 (impl_MountAll.e r).2.1 (impl_MountAll.e r).2.2 :=
  con_okG kitOk mix (fun k => (CtxOk.cons (impl_FlashOk.xok k) (CtxOk.cons (impl_ScanAll.xok k) (CtxOk.cons (impl_copyFlash.xok k) (CtxOk.cons (impl_StoreNew.xok k) (CtxOk.cons (impl_LastSeq.xok k) (CtxOk.cons (impl_SinceBase.xok k) (CtxOk.cons (impl_Gather.xok k) CtxOk.nil)))))))) (impl_MountAll.oke k a0_0) h (by kernel_rfl) (by kernel_rfl) (by kernel_rfl) rfl (by kernel_rfl) rfl rfl
noncomputable def impl_MountAll.x (k : Nat) : X := fun ins bs κ => match ins, bs with
  | [.ag [.row 0 .t48 a0_0]], [] => (impl_MountAll.f k a0_0).bind fun r => κ (impl_MountAll.e r).1 (impl_MountAll.e r).2.1 (impl_MountAll.e r).2.2
  | _, _ => none
theorem impl_MountAll.xok (k : Nat) : XOk 12 (impl_MountAll.x k) := by
  intro ins bs κ res h
  unfold impl_MountAll.x at h
  split at h
  · obtain ⟨r, hr, h⟩ := Option.bind_eq_some_iff.1 h
    exact ⟨_, _, _, impl_MountAll.con k _ r hr, h⟩
  · cases h
end Go.Proofs.YtmboeckendhdnaaGreat.M2

/- Plain runs of functions: each is a plain Lean function, and keeps its contract. Written by a program of this session. -/
namespace Go.Proofs.YtmboeckendhdnaaGreat.M2
open Go Go.Proofs.YtmboeckendhdnaaGreat.PK
set_option linter.unusedVariables false
set_option linter.unusedSimpArgs false
set_option maxHeartbeats 4000000
/-! ### impl_DeviceNew: function 5 -/
noncomputable def impl_DeviceNew.sp : Nat → Option (Spec Ty) := fun r => none
noncomputable def impl_DeviceNew.en : Option (Spec Ty) := some ⟨[(2, .box [.own .t48, .own .t96, .own .t132, .keep, .keep, .keep, .keep]), (3, .keep)], []⟩
noncomputable def impl_DeviceNew.ctx (k : Nat) : Ctx Ty D := (cons 11 (impl_FlashNew.x k) (cons 12 (impl_MountAll.x k) (fun _ _ _ _ => none)))
noncomputable def impl_DeviceNew.f (k : Nat) (a0 : Int) : Option ((List S48) × (List S96) × (List S132) × Int × Int × Int × Int × Bool) := ((impl_FlashNew.f k a0).bind fun t1 => (if t1.2 = true then ((impl_MountAll.f k t1.1).bind fun t2 => (some (t2.1, t2.2.1, t2.2.2.1, t2.2.2.2.1, t2.2.2.2.2.1, t2.2.2.2.2.2.1, t2.2.2.2.2.2.2.1, t2.2.2.2.2.2.2.2))) else (some (([] : List S48), ([] : List S96), ([] : List S132), 0, 0, 0, 0, false))))
noncomputable def impl_DeviceNew.e (r : (List S48) × (List S96) × (List S132) × Int × Int × Int × Int × Bool) : Res Ty D := (.tu [.ag [.sl 0 none, .sl 1 none, .sl 2 none, .sc (.int .i64 r.2.2.2.1), .sc (.int .i64 r.2.2.2.2.1), .sc (.int .i64 r.2.2.2.2.2.1), .sc (.int .i64 r.2.2.2.2.2.2.1)], .sc (.bool r.2.2.2.2.2.2.2)], [], [.rowb .t48 r.1 0, .rowb .t96 r.2.1 0, .rowb .t132 r.2.2.1 0])
noncomputable abbrev impl_DeviceNew.g (rec : List Item → St Ty D → R) (k : Nat) := go1 Tryz.f5 (impl_DeviceNew.ctx k) impl_DeviceNew.sp 0 impl_DeviceNew.en rec
set_option maxRecDepth 100000 in
theorem impl_DeviceNew.te (rec : List Item → St Ty D → R) (k : Nat) (a0 : Int) : impl_DeviceNew.g rec k [.code (body Tryz.f5)] (startSt [.sc (.int .i64 a0)] []) =
  (impl_FlashNew.f k a0).bind fun t1 => bif !t1.2 then some (impl_DeviceNew.e (([] : List S48), ([] : List S96), ([] : List S132), 0, 0, 0, 0, false)) else (impl_MountAll.f k t1.1).bind fun t2 => some (impl_DeviceNew.e (t2.1, t2.2.1, t2.2.2.1, t2.2.2.2.1, t2.2.2.2.2.1, t2.2.2.2.2.2.1, t2.2.2.2.2.2.2.1, t2.2.2.2.2.2.2.2)) := by kernel_rfl
set_option maxRecDepth 100000 in
theorem impl_DeviceNew.oke (k : Nat) (a0 : Int) : goF Tryz.f5 impl_DeviceNew.ctx impl_DeviceNew.sp 0 impl_DeviceNew.en (k + 1) [.code (body Tryz.f5)] (startSt [.sc (.int .i64 a0)] []) = (impl_DeviceNew.f k a0).map impl_DeviceNew.e := by
  rw [impl_DeviceNew.f]; exact (impl_DeviceNew.te _ k a0).trans (bn (fun t1 => (nb rfl (bn (fun t2 => rfl)))))
theorem impl_DeviceNew.con (k : Nat) (a0 : Int) (r) (h : impl_DeviceNew.f k a0 = some r) : Contract Tryz.prog kit 5 [.sc (.int .i64 a0)] [] (impl_DeviceNew.e r).1 (impl_DeviceNew.e r).2.1 (impl_DeviceNew.e r).2.2 :=
  con_okG kitOk mix (fun k => (CtxOk.cons (impl_FlashNew.xok k) (CtxOk.cons (impl_MountAll.xok k) CtxOk.nil))) (impl_DeviceNew.oke k a0) h (by kernel_rfl) (by kernel_rfl) (by kernel_rfl) rfl (by kernel_rfl) rfl rfl
noncomputable def impl_DeviceNew.x (k : Nat) : X := fun ins bs κ => match ins, bs with
  | [.sc (.int .i64 a0)], [] => (impl_DeviceNew.f k a0).bind fun r => κ (impl_DeviceNew.e r).1 (impl_DeviceNew.e r).2.1 (impl_DeviceNew.e r).2.2
  | _, _ => none
theorem impl_DeviceNew.xok (k : Nat) : XOk 5 (impl_DeviceNew.x k) := by
  intro ins bs κ res h
  unfold impl_DeviceNew.x at h
  split at h
  · obtain ⟨r, hr, h⟩ := Option.bind_eq_some_iff.1 h
    exact ⟨_, _, _, impl_DeviceNew.con k _ r hr, h⟩
  · cases h

/-! ### laws_eqLeaf: function 134 -/
noncomputable def laws_eqLeaf.sp : Nat → Option (Spec Ty) := fun r => none
noncomputable def laws_eqLeaf.en : Option (Spec Ty) := none
noncomputable def laws_eqLeaf.ctx (k : Nat) : Ctx Ty D := (fun _ _ _ _ => none)
noncomputable def laws_eqLeaf.f (k : Nat) (a0_0 : Int) (a0_1 : ByteArray) (a1_0 : Int) (a1_1 : ByteArray) : Option (Bool) := (if a0_0 = a1_0 then (if (seq a0_1 a1_1) = true then (some (true)) else (some (false))) else (some (false)))
noncomputable def laws_eqLeaf.e (r : Bool) : Res Ty D := (.sc (.bool r), [], [])
noncomputable abbrev laws_eqLeaf.g (rec : List Item → St Ty D → R) (k : Nat) := go1 Tryz.f134 (laws_eqLeaf.ctx k) laws_eqLeaf.sp 0 laws_eqLeaf.en rec
set_option maxRecDepth 100000 in
theorem laws_eqLeaf.te (rec : List Item → St Ty D → R) (k : Nat) (a0_0 : Int) (a0_1 : ByteArray) (a1_0 : Int) (a1_1 : ByteArray) : laws_eqLeaf.g rec k [.code (body Tryz.f134)] (startSt [.ag [.sc (.int .i64 a0_0), .sc (.string a0_1)], .ag [.sc (.int .i64 a1_0), .sc (.string a1_1)]] []) =
  bif !decide (a0_0 = a1_0) then some (laws_eqLeaf.e (false)) else bif !(seq a0_1 a1_1) then some (laws_eqLeaf.e (false)) else some (laws_eqLeaf.e (true)) := by kernel_rfl
set_option maxRecDepth 100000 in
theorem laws_eqLeaf.oke (k : Nat) (a0_0 : Int) (a0_1 : ByteArray) (a1_0 : Int) (a1_1 : ByteArray) : goF Tryz.f134 laws_eqLeaf.ctx laws_eqLeaf.sp 0 laws_eqLeaf.en (k + 1) [.code (body Tryz.f134)] (startSt [.ag [.sc (.int .i64 a0_0), .sc (.string a0_1)], .ag [.sc (.int .i64 a1_0), .sc (.string a1_1)]] []) = (laws_eqLeaf.f k a0_0 a0_1 a1_0 a1_1).map laws_eqLeaf.e := by
  rw [laws_eqLeaf.f]; exact (laws_eqLeaf.te _ k a0_0 a0_1 a1_0 a1_1).trans (nd rfl (nb rfl rfl))
theorem laws_eqLeaf.con (k : Nat) (a0_0 : Int) (a0_1 : ByteArray) (a1_0 : Int) (a1_1 : ByteArray) (r) (h : laws_eqLeaf.f k a0_0 a0_1 a1_0 a1_1 = some r) : Contract Tryz.prog kit 134 [.ag [.sc (.int .i64 a0_0), .sc (.string a0_1)], .ag [.sc (.int .i64 a1_0), .sc (.string a1_1)]] [] (laws_eqLeaf.e r).1 (laws_eqLeaf.e r).2.1 (laws_eqLeaf.e r).2.2 :=
  con_okG kitOk mix (fun k => CtxOk.nil) (laws_eqLeaf.oke k a0_0 a0_1 a1_0 a1_1) h (by kernel_rfl) (by kernel_rfl) (by kernel_rfl) rfl (by kernel_rfl) rfl rfl
noncomputable def laws_eqLeaf.x (k : Nat) : X := fun ins bs κ => match ins, bs with
  | [.ag [.sc (.int .i64 a0_0), .sc (.string a0_1)], .ag [.sc (.int .i64 a1_0), .sc (.string a1_1)]], [] => (laws_eqLeaf.f k a0_0 a0_1 a1_0 a1_1).bind fun r => κ (laws_eqLeaf.e r).1 (laws_eqLeaf.e r).2.1 (laws_eqLeaf.e r).2.2
  | _, _ => none
theorem laws_eqLeaf.xok (k : Nat) : XOk 134 (laws_eqLeaf.x k) := by
  intro ins bs κ res h
  unfold laws_eqLeaf.x at h
  split at h
  · obtain ⟨r, hr, h⟩ := Option.bind_eq_some_iff.1 h
    exact ⟨_, _, _, laws_eqLeaf.con k _ _ _ _ r hr, h⟩
  · cases h

/-! ### laws_eqLeafS: function 95 -/
noncomputable def laws_eqLeafS.sp : Nat → Option (Spec Ty) := fun r => bif Nat.beq r 4 then some ⟨[(0, .keep), (1, .keep), (5, .keep)], []⟩ else none
noncomputable def laws_eqLeafS.en : Option (Spec Ty) := none
noncomputable def laws_eqLeafS.s4 (x0 : List S76) (x1 : List S76) (x5 : Int) : St Ty D := ⟨(Env.put (Env.put (Env.put E (some 0) (.row 0 .t76 x0)) (some 1) (.row 0 .t76 x1)) (some 5) (.sc (.int .i64 x5))), H0, 1000⟩
noncomputable def laws_eqLeafS.ctx (k : Nat) : Ctx Ty D := (cons 134 (laws_eqLeaf.x k) (fun _ _ _ _ => none))
noncomputable def laws_eqLeafS.c4 : Nat → (List S76) → (List S76) → Int → Option (Bool)
  | 0, _, _, _ => none
  | k + 1, x0, x1, x5 => (if x5 < (x0.length : Int) then (if 0 ≤ x5 then (if x5 < (x0.length : Int) then (if 0 ≤ x5 then (if x5 < (x1.length : Int) then ((laws_eqLeaf.f k ((rd_T76 x0 x5).f0) ((rd_T76 x0 x5).f1) ((rd_T76 x1 x5).f0) ((rd_T76 x1 x5).f1)).bind fun t1 => (if t1 = true then (laws_eqLeafS.c4 k x0 x1 (w64 (x5 + 1))) else (some (false)))) else none) else none) else none) else none) else (some (true)))
noncomputable def laws_eqLeafS.f (k : Nat) (a0 : List S76) (a1 : List S76) : Option (Bool) := (if (a0.length : Int) = (a1.length : Int) then (laws_eqLeafS.c4 k a0 a1 0) else (some (false)))
noncomputable def laws_eqLeafS.e (r : Bool) : Res Ty D := (.sc (.bool r), [], [])
noncomputable abbrev laws_eqLeafS.g (rec : List Item → St Ty D → R) (k : Nat) := go1 Tryz.f95 (laws_eqLeafS.ctx k) laws_eqLeafS.sp 0 laws_eqLeafS.en rec
set_option maxRecDepth 100000 in
theorem laws_eqLeafS.t4 (rec : List Item → St Ty D → R) (k : Nat) (x0 : List S76) (x1 : List S76) (x5 : Int) : laws_eqLeafS.g rec k (td Tryz.f95 4) (laws_eqLeafS.s4 x0 x1 x5) =
  bif decide (x5 < (x0.length : Int)) then bif decide (0 ≤ x5) then bif decide (x5 < (x0.length : Int)) then bif decide (0 ≤ x5) then bif decide (x5 < (x1.length : Int)) then (laws_eqLeaf.f k ((rd_T76 x0 x5).f0) ((rd_T76 x0 x5).f1) ((rd_T76 x1 x5).f0) ((rd_T76 x1 x5).f1)).bind fun t1 => bif !t1 then some (laws_eqLeafS.e (false)) else rec (td Tryz.f95 4) (laws_eqLeafS.s4 x0 x1 (w64 (x5 + 1))) else none else none else none else none else some (laws_eqLeafS.e (true)) := by kernel_rfl
set_option maxRecDepth 100000 in
theorem laws_eqLeafS.te (rec : List Item → St Ty D → R) (k : Nat) (a0 : List S76) (a1 : List S76) : laws_eqLeafS.g rec k [.code (body Tryz.f95)] (startSt [.row 0 .t76 a0, .row 0 .t76 a1] []) =
  bif !decide ((a0.length : Int) = (a1.length : Int)) then some (laws_eqLeafS.e (false)) else rec (td Tryz.f95 4) (laws_eqLeafS.s4 a0 a1 0) := by kernel_rfl
set_option maxRecDepth 100000 in
theorem laws_eqLeafS.ok : ∀ k : Nat, (∀ (x0 : List S76) (x1 : List S76) (x5 : Int), goF Tryz.f95 laws_eqLeafS.ctx laws_eqLeafS.sp 0 laws_eqLeafS.en k (td Tryz.f95 4) (laws_eqLeafS.s4 x0 x1 x5) = (laws_eqLeafS.c4 k x0 x1 x5).map laws_eqLeafS.e)
  | 0 => fun _ _ _ => rfl
  | k + 1 => by
    have ih := laws_eqLeafS.ok k
    have i4 := ih
    intro x0 x1 x5; rw [laws_eqLeafS.c4]; exact (laws_eqLeafS.t4 _ k x0 x1 x5).trans (cd (cd (cd (cd (cd (bn (fun t1 => (nb rfl (i4 _ _ _)))) rfl) rfl) rfl) rfl) rfl)
set_option maxRecDepth 100000 in
theorem laws_eqLeafS.oke (k : Nat) (a0 : List S76) (a1 : List S76) : goF Tryz.f95 laws_eqLeafS.ctx laws_eqLeafS.sp 0 laws_eqLeafS.en (k + 1) [.code (body Tryz.f95)] (startSt [.row 0 .t76 a0, .row 0 .t76 a1] []) = (laws_eqLeafS.f k a0 a1).map laws_eqLeafS.e := by
  have i4 := laws_eqLeafS.ok k
  rw [laws_eqLeafS.f]; exact (laws_eqLeafS.te _ k a0 a1).trans (nd rfl (i4 _ _ _))
theorem laws_eqLeafS.con (k : Nat) (a0 : List S76) (a1 : List S76) (r) (h : laws_eqLeafS.f k a0 a1 = some r) : Contract Tryz.prog kit 95 [.row 0 .t76 a0, .row 0 .t76 a1] [] (laws_eqLeafS.e r).1 (laws_eqLeafS.e r).2.1 (laws_eqLeafS.e r).2.2 :=
  con_okG kitOk mix (fun k => (CtxOk.cons (laws_eqLeaf.xok k) CtxOk.nil)) (laws_eqLeafS.oke k a0 a1) h (by kernel_rfl) (by kernel_rfl) (by kernel_rfl) rfl (by kernel_rfl) rfl rfl
noncomputable def laws_eqLeafS.x (k : Nat) : X := fun ins bs κ => match ins, bs with
  | [.row 0 .t76 a0, .row 0 .t76 a1], [] => (laws_eqLeafS.f k a0 a1).bind fun r => κ (laws_eqLeafS.e r).1 (laws_eqLeafS.e r).2.1 (laws_eqLeafS.e r).2.2
  | _, _ => none
theorem laws_eqLeafS.xok (k : Nat) : XOk 95 (laws_eqLeafS.x k) := by
  intro ins bs κ res h
  unfold laws_eqLeafS.x at h
  split at h
  · obtain ⟨r, hr, h⟩ := Option.bind_eq_some_iff.1 h
    exact ⟨_, _, _, laws_eqLeafS.con k _ _ r hr, h⟩
  · cases h

/-! ### laws_eqBlock: function 62 -/
noncomputable def laws_eqBlock.sp : Nat → Option (Spec Ty) := fun r => none
noncomputable def laws_eqBlock.en : Option (Spec Ty) := none
noncomputable def laws_eqBlock.ctx (k : Nat) : Ctx Ty D := (cons 95 (laws_eqLeafS.x k) (fun _ _ _ _ => none))
noncomputable def laws_eqBlock.f (k : Nat) (a0_0 : Bool) (a0_1 : Int) (a0_2 : List S76) (a1_0 : Bool) (a1_1 : Int) (a1_2 : List S76) : Option (Bool) := (if (a0_0 == a1_0) = true then (if a0_1 = a1_1 then ((laws_eqLeafS.f k a0_2 a1_2).bind fun t1 => (if t1 = true then (some (true)) else (some (false)))) else (some (false))) else (some (false)))
noncomputable def laws_eqBlock.e (r : Bool) : Res Ty D := (.sc (.bool r), [], [])
noncomputable abbrev laws_eqBlock.g (rec : List Item → St Ty D → R) (k : Nat) := go1 Tryz.f62 (laws_eqBlock.ctx k) laws_eqBlock.sp 0 laws_eqBlock.en rec
set_option maxRecDepth 100000 in
theorem laws_eqBlock.te (rec : List Item → St Ty D → R) (k : Nat) (a0_0 : Bool) (a0_1 : Int) (a0_2 : List S76) (a1_0 : Bool) (a1_1 : Int) (a1_2 : List S76) : laws_eqBlock.g rec k [.code (body Tryz.f62)] (startSt [.ag [.sc (.bool a0_0), .sc (.int .i64 a0_1), .row 0 .t76 a0_2], .ag [.sc (.bool a1_0), .sc (.int .i64 a1_1), .row 0 .t76 a1_2]] []) =
  bif !(a0_0 == a1_0) then some (laws_eqBlock.e (false)) else bif !decide (a0_1 = a1_1) then some (laws_eqBlock.e (false)) else (laws_eqLeafS.f k a0_2 a1_2).bind fun t1 => bif !t1 then some (laws_eqBlock.e (false)) else some (laws_eqBlock.e (true)) := by kernel_rfl
set_option maxRecDepth 100000 in
theorem laws_eqBlock.oke (k : Nat) (a0_0 : Bool) (a0_1 : Int) (a0_2 : List S76) (a1_0 : Bool) (a1_1 : Int) (a1_2 : List S76) : goF Tryz.f62 laws_eqBlock.ctx laws_eqBlock.sp 0 laws_eqBlock.en (k + 1) [.code (body Tryz.f62)] (startSt [.ag [.sc (.bool a0_0), .sc (.int .i64 a0_1), .row 0 .t76 a0_2], .ag [.sc (.bool a1_0), .sc (.int .i64 a1_1), .row 0 .t76 a1_2]] []) = (laws_eqBlock.f k a0_0 a0_1 a0_2 a1_0 a1_1 a1_2).map laws_eqBlock.e := by
  rw [laws_eqBlock.f]; exact (laws_eqBlock.te _ k a0_0 a0_1 a0_2 a1_0 a1_1 a1_2).trans (nb rfl (nd rfl (bn (fun t1 => (nb rfl rfl)))))
theorem laws_eqBlock.con (k : Nat) (a0_0 : Bool) (a0_1 : Int) (a0_2 : List S76) (a1_0 : Bool) (a1_1 : Int) (a1_2 : List S76) (r) (h : laws_eqBlock.f k a0_0 a0_1 a0_2 a1_0 a1_1 a1_2 = some r) : Contract Tryz.prog kit 62 [.ag [.sc (.bool a0_0), .sc (.int .i64 a0_1), .row 0 .t76 a0_2], .ag [.sc (.bool a1_0), .sc (.int .i64 a1_1), .row 0 .t76 a1_2]] [] (laws_eqBlock.e r).1 (laws_eqBlock.e r).2.1 (laws_eqBlock.e r).2.2 :=
  con_okG kitOk mix (fun k => (CtxOk.cons (laws_eqLeafS.xok k) CtxOk.nil)) (laws_eqBlock.oke k a0_0 a0_1 a0_2 a1_0 a1_1 a1_2) h (by kernel_rfl) (by kernel_rfl) (by kernel_rfl) rfl (by kernel_rfl) rfl rfl
noncomputable def laws_eqBlock.x (k : Nat) : X := fun ins bs κ => match ins, bs with
  | [.ag [.sc (.bool a0_0), .sc (.int .i64 a0_1), .row 0 .t76 a0_2], .ag [.sc (.bool a1_0), .sc (.int .i64 a1_1), .row 0 .t76 a1_2]], [] => (laws_eqBlock.f k a0_0 a0_1 a0_2 a1_0 a1_1 a1_2).bind fun r => κ (laws_eqBlock.e r).1 (laws_eqBlock.e r).2.1 (laws_eqBlock.e r).2.2
  | _, _ => none
theorem laws_eqBlock.xok (k : Nat) : XOk 62 (laws_eqBlock.x k) := by
  intro ins bs κ res h
  unfold laws_eqBlock.x at h
  split at h
  · obtain ⟨r, hr, h⟩ := Option.bind_eq_some_iff.1 h
    exact ⟨_, _, _, laws_eqBlock.con k _ _ _ _ _ _ r hr, h⟩
  · cases h

/-! ### laws_eqBlockS: function 37 -/
noncomputable def laws_eqBlockS.sp : Nat → Option (Spec Ty) := fun r => bif Nat.beq r 4 then some ⟨[(0, .keep), (1, .keep), (5, .keep)], []⟩ else none
noncomputable def laws_eqBlockS.en : Option (Spec Ty) := none
noncomputable def laws_eqBlockS.s4 (x0 : List S48) (x1 : List S48) (x5 : Int) : St Ty D := ⟨(Env.put (Env.put (Env.put E (some 0) (.row 0 .t48 x0)) (some 1) (.row 0 .t48 x1)) (some 5) (.sc (.int .i64 x5))), H0, 1000⟩
noncomputable def laws_eqBlockS.ctx (k : Nat) : Ctx Ty D := (cons 62 (laws_eqBlock.x k) (fun _ _ _ _ => none))
noncomputable def laws_eqBlockS.c4 : Nat → (List S48) → (List S48) → Int → Option (Bool)
  | 0, _, _, _ => none
  | k + 1, x0, x1, x5 => (if x5 < (x0.length : Int) then (if 0 ≤ x5 then (if x5 < (x0.length : Int) then (if 0 ≤ x5 then (if x5 < (x1.length : Int) then ((laws_eqBlock.f k ((rd_T48 x0 x5).f0) ((rd_T48 x0 x5).f1) ((rd_T48 x0 x5).f2) ((rd_T48 x1 x5).f0) ((rd_T48 x1 x5).f1) ((rd_T48 x1 x5).f2)).bind fun t1 => (if t1 = true then (laws_eqBlockS.c4 k x0 x1 (w64 (x5 + 1))) else (some (false)))) else none) else none) else none) else none) else (some (true)))
noncomputable def laws_eqBlockS.f (k : Nat) (a0 : List S48) (a1 : List S48) : Option (Bool) := (if (a0.length : Int) = (a1.length : Int) then (laws_eqBlockS.c4 k a0 a1 0) else (some (false)))
noncomputable def laws_eqBlockS.e (r : Bool) : Res Ty D := (.sc (.bool r), [], [])
noncomputable abbrev laws_eqBlockS.g (rec : List Item → St Ty D → R) (k : Nat) := go1 Tryz.f37 (laws_eqBlockS.ctx k) laws_eqBlockS.sp 0 laws_eqBlockS.en rec
set_option maxRecDepth 100000 in
theorem laws_eqBlockS.t4 (rec : List Item → St Ty D → R) (k : Nat) (x0 : List S48) (x1 : List S48) (x5 : Int) : laws_eqBlockS.g rec k (td Tryz.f37 4) (laws_eqBlockS.s4 x0 x1 x5) =
  bif decide (x5 < (x0.length : Int)) then bif decide (0 ≤ x5) then bif decide (x5 < (x0.length : Int)) then bif decide (0 ≤ x5) then bif decide (x5 < (x1.length : Int)) then (laws_eqBlock.f k ((rd_T48 x0 x5).f0) ((rd_T48 x0 x5).f1) ((rd_T48 x0 x5).f2) ((rd_T48 x1 x5).f0) ((rd_T48 x1 x5).f1) ((rd_T48 x1 x5).f2)).bind fun t1 => bif !t1 then some (laws_eqBlockS.e (false)) else rec (td Tryz.f37 4) (laws_eqBlockS.s4 x0 x1 (w64 (x5 + 1))) else none else none else none else none else some (laws_eqBlockS.e (true)) := by kernel_rfl
set_option maxRecDepth 100000 in
theorem laws_eqBlockS.te (rec : List Item → St Ty D → R) (k : Nat) (a0 : List S48) (a1 : List S48) : laws_eqBlockS.g rec k [.code (body Tryz.f37)] (startSt [.row 0 .t48 a0, .row 0 .t48 a1] []) =
  bif !decide ((a0.length : Int) = (a1.length : Int)) then some (laws_eqBlockS.e (false)) else rec (td Tryz.f37 4) (laws_eqBlockS.s4 a0 a1 0) := by kernel_rfl
set_option maxRecDepth 100000 in
theorem laws_eqBlockS.ok : ∀ k : Nat, (∀ (x0 : List S48) (x1 : List S48) (x5 : Int), goF Tryz.f37 laws_eqBlockS.ctx laws_eqBlockS.sp 0 laws_eqBlockS.en k (td Tryz.f37 4) (laws_eqBlockS.s4 x0 x1 x5) = (laws_eqBlockS.c4 k x0 x1 x5).map laws_eqBlockS.e)
  | 0 => fun _ _ _ => rfl
  | k + 1 => by
    have ih := laws_eqBlockS.ok k
    have i4 := ih
    intro x0 x1 x5; rw [laws_eqBlockS.c4]; exact (laws_eqBlockS.t4 _ k x0 x1 x5).trans (cd (cd (cd (cd (cd (bn (fun t1 => (nb rfl (i4 _ _ _)))) rfl) rfl) rfl) rfl) rfl)
set_option maxRecDepth 100000 in
theorem laws_eqBlockS.oke (k : Nat) (a0 : List S48) (a1 : List S48) : goF Tryz.f37 laws_eqBlockS.ctx laws_eqBlockS.sp 0 laws_eqBlockS.en (k + 1) [.code (body Tryz.f37)] (startSt [.row 0 .t48 a0, .row 0 .t48 a1] []) = (laws_eqBlockS.f k a0 a1).map laws_eqBlockS.e := by
  have i4 := laws_eqBlockS.ok k
  rw [laws_eqBlockS.f]; exact (laws_eqBlockS.te _ k a0 a1).trans (nd rfl (i4 _ _ _))
theorem laws_eqBlockS.con (k : Nat) (a0 : List S48) (a1 : List S48) (r) (h : laws_eqBlockS.f k a0 a1 = some r) : Contract Tryz.prog kit 37 [.row 0 .t48 a0, .row 0 .t48 a1] [] (laws_eqBlockS.e r).1 (laws_eqBlockS.e r).2.1 (laws_eqBlockS.e r).2.2 :=
  con_okG kitOk mix (fun k => (CtxOk.cons (laws_eqBlock.xok k) CtxOk.nil)) (laws_eqBlockS.oke k a0 a1) h (by kernel_rfl) (by kernel_rfl) (by kernel_rfl) rfl (by kernel_rfl) rfl rfl
noncomputable def laws_eqBlockS.x (k : Nat) : X := fun ins bs κ => match ins, bs with
  | [.row 0 .t48 a0, .row 0 .t48 a1], [] => (laws_eqBlockS.f k a0 a1).bind fun r => κ (laws_eqBlockS.e r).1 (laws_eqBlockS.e r).2.1 (laws_eqBlockS.e r).2.2
  | _, _ => none
theorem laws_eqBlockS.xok (k : Nat) : XOk 37 (laws_eqBlockS.x k) := by
  intro ins bs κ res h
  unfold laws_eqBlockS.x at h
  split at h
  · obtain ⟨r, hr, h⟩ := Option.bind_eq_some_iff.1 h
    exact ⟨_, _, _, laws_eqBlockS.con k _ _ r hr, h⟩
  · cases h

/-! ### laws_eqFlash: function 13 -/
noncomputable def laws_eqFlash.sp : Nat → Option (Spec Ty) := fun r => none
noncomputable def laws_eqFlash.en : Option (Spec Ty) := none
noncomputable def laws_eqFlash.ctx (k : Nat) : Ctx Ty D := (cons 37 (laws_eqBlockS.x k) (fun _ _ _ _ => none))
noncomputable def laws_eqFlash.f (k : Nat) (a0_0 : List S48) (a1_0 : List S48) : Option (Bool) := ((laws_eqBlockS.f k a0_0 a1_0).bind fun t1 => (if t1 = true then (some (true)) else (some (false))))
noncomputable def laws_eqFlash.e (r : Bool) : Res Ty D := (.sc (.bool r), [], [])
noncomputable abbrev laws_eqFlash.g (rec : List Item → St Ty D → R) (k : Nat) := go1 Tryz.f13 (laws_eqFlash.ctx k) laws_eqFlash.sp 0 laws_eqFlash.en rec
set_option maxRecDepth 100000 in
theorem laws_eqFlash.te (rec : List Item → St Ty D → R) (k : Nat) (a0_0 : List S48) (a1_0 : List S48) : laws_eqFlash.g rec k [.code (body Tryz.f13)] (startSt [.ag [.row 0 .t48 a0_0], .ag [.row 0 .t48 a1_0]] []) =
  (laws_eqBlockS.f k a0_0 a1_0).bind fun t1 => bif !t1 then some (laws_eqFlash.e (false)) else some (laws_eqFlash.e (true)) := by kernel_rfl
set_option maxRecDepth 100000 in
theorem laws_eqFlash.oke (k : Nat) (a0_0 : List S48) (a1_0 : List S48) : goF Tryz.f13 laws_eqFlash.ctx laws_eqFlash.sp 0 laws_eqFlash.en (k + 1) [.code (body Tryz.f13)] (startSt [.ag [.row 0 .t48 a0_0], .ag [.row 0 .t48 a1_0]] []) = (laws_eqFlash.f k a0_0 a1_0).map laws_eqFlash.e := by
  rw [laws_eqFlash.f]; exact (laws_eqFlash.te _ k a0_0 a1_0).trans (bn (fun t1 => (nb rfl rfl)))
theorem laws_eqFlash.con (k : Nat) (a0_0 : List S48) (a1_0 : List S48) (r) (h : laws_eqFlash.f k a0_0 a1_0 = some r) : Contract Tryz.prog kit 13 [.ag [.row 0 .t48 a0_0], .ag [.row 0 .t48 a1_0]] [] (laws_eqFlash.e r).1 (laws_eqFlash.e r).2.1 (laws_eqFlash.e r).2.2 :=
  con_okG kitOk mix (fun k => (CtxOk.cons (laws_eqBlockS.xok k) CtxOk.nil)) (laws_eqFlash.oke k a0_0 a1_0) h (by kernel_rfl) (by kernel_rfl) (by kernel_rfl) rfl (by kernel_rfl) rfl rfl
noncomputable def laws_eqFlash.x (k : Nat) : X := fun ins bs κ => match ins, bs with
  | [.ag [.row 0 .t48 a0_0], .ag [.row 0 .t48 a1_0]], [] => (laws_eqFlash.f k a0_0 a1_0).bind fun r => κ (laws_eqFlash.e r).1 (laws_eqFlash.e r).2.1 (laws_eqFlash.e r).2.2
  | _, _ => none
theorem laws_eqFlash.xok (k : Nat) : XOk 13 (laws_eqFlash.x k) := by
  intro ins bs κ res h
  unfold laws_eqFlash.x at h
  split at h
  · obtain ⟨r, hr, h⟩ := Option.bind_eq_some_iff.1 h
    exact ⟨_, _, _, laws_eqFlash.con k _ _ r hr, h⟩
  · cases h

/-! ### laws_eqVol: function 63 -/
noncomputable def laws_eqVol.sp : Nat → Option (Spec Ty) := fun r => none
noncomputable def laws_eqVol.en : Option (Spec Ty) := none
noncomputable def laws_eqVol.ctx (k : Nat) : Ctx Ty D := (fun _ _ _ _ => none)
noncomputable def laws_eqVol.f (k : Nat) (a0_0 : Int) (a0_1 : Int) (a1_0 : Int) (a1_1 : Int) : Option (Bool) := (if a0_0 = a1_0 then (if a0_1 = a1_1 then (some (true)) else (some (false))) else (some (false)))
noncomputable def laws_eqVol.e (r : Bool) : Res Ty D := (.sc (.bool r), [], [])
noncomputable abbrev laws_eqVol.g (rec : List Item → St Ty D → R) (k : Nat) := go1 Tryz.f63 (laws_eqVol.ctx k) laws_eqVol.sp 0 laws_eqVol.en rec
set_option maxRecDepth 100000 in
theorem laws_eqVol.te (rec : List Item → St Ty D → R) (k : Nat) (a0_0 : Int) (a0_1 : Int) (a1_0 : Int) (a1_1 : Int) : laws_eqVol.g rec k [.code (body Tryz.f63)] (startSt [.ag [.sc (.int .i64 a0_0), .sc (.int .i64 a0_1)], .ag [.sc (.int .i64 a1_0), .sc (.int .i64 a1_1)]] []) =
  bif !decide (a0_0 = a1_0) then some (laws_eqVol.e (false)) else bif !decide (a0_1 = a1_1) then some (laws_eqVol.e (false)) else some (laws_eqVol.e (true)) := by kernel_rfl
set_option maxRecDepth 100000 in
theorem laws_eqVol.oke (k : Nat) (a0_0 : Int) (a0_1 : Int) (a1_0 : Int) (a1_1 : Int) : goF Tryz.f63 laws_eqVol.ctx laws_eqVol.sp 0 laws_eqVol.en (k + 1) [.code (body Tryz.f63)] (startSt [.ag [.sc (.int .i64 a0_0), .sc (.int .i64 a0_1)], .ag [.sc (.int .i64 a1_0), .sc (.int .i64 a1_1)]] []) = (laws_eqVol.f k a0_0 a0_1 a1_0 a1_1).map laws_eqVol.e := by
  rw [laws_eqVol.f]; exact (laws_eqVol.te _ k a0_0 a0_1 a1_0 a1_1).trans (nd rfl (nd rfl rfl))
theorem laws_eqVol.con (k : Nat) (a0_0 : Int) (a0_1 : Int) (a1_0 : Int) (a1_1 : Int) (r) (h : laws_eqVol.f k a0_0 a0_1 a1_0 a1_1 = some r) : Contract Tryz.prog kit 63 [.ag [.sc (.int .i64 a0_0), .sc (.int .i64 a0_1)], .ag [.sc (.int .i64 a1_0), .sc (.int .i64 a1_1)]] [] (laws_eqVol.e r).1 (laws_eqVol.e r).2.1 (laws_eqVol.e r).2.2 :=
  con_okG kitOk mix (fun k => CtxOk.nil) (laws_eqVol.oke k a0_0 a0_1 a1_0 a1_1) h (by kernel_rfl) (by kernel_rfl) (by kernel_rfl) rfl (by kernel_rfl) rfl rfl
noncomputable def laws_eqVol.x (k : Nat) : X := fun ins bs κ => match ins, bs with
  | [.ag [.sc (.int .i64 a0_0), .sc (.int .i64 a0_1)], .ag [.sc (.int .i64 a1_0), .sc (.int .i64 a1_1)]], [] => (laws_eqVol.f k a0_0 a0_1 a1_0 a1_1).bind fun r => κ (laws_eqVol.e r).1 (laws_eqVol.e r).2.1 (laws_eqVol.e r).2.2
  | _, _ => none
theorem laws_eqVol.xok (k : Nat) : XOk 63 (laws_eqVol.x k) := by
  intro ins bs κ res h
  unfold laws_eqVol.x at h
  split at h
  · obtain ⟨r, hr, h⟩ := Option.bind_eq_some_iff.1 h
    exact ⟨_, _, _, laws_eqVol.con k _ _ _ _ r hr, h⟩
  · cases h

/-! ### laws_eqVolS: function 38 -/
noncomputable def laws_eqVolS.sp : Nat → Option (Spec Ty) := fun r => bif Nat.beq r 4 then some ⟨[(0, .keep), (1, .keep), (5, .keep)], []⟩ else none
noncomputable def laws_eqVolS.en : Option (Spec Ty) := none
noncomputable def laws_eqVolS.s4 (x0 : List S96) (x1 : List S96) (x5 : Int) : St Ty D := ⟨(Env.put (Env.put (Env.put E (some 0) (.row 0 .t96 x0)) (some 1) (.row 0 .t96 x1)) (some 5) (.sc (.int .i64 x5))), H0, 1000⟩
noncomputable def laws_eqVolS.ctx (k : Nat) : Ctx Ty D := (cons 63 (laws_eqVol.x k) (fun _ _ _ _ => none))
noncomputable def laws_eqVolS.c4 : Nat → (List S96) → (List S96) → Int → Option (Bool)
  | 0, _, _, _ => none
  | k + 1, x0, x1, x5 => (if x5 < (x0.length : Int) then (if 0 ≤ x5 then (if x5 < (x0.length : Int) then (if 0 ≤ x5 then (if x5 < (x1.length : Int) then ((laws_eqVol.f k ((rd_T96 x0 x5).f0) ((rd_T96 x0 x5).f1) ((rd_T96 x1 x5).f0) ((rd_T96 x1 x5).f1)).bind fun t1 => (if t1 = true then (laws_eqVolS.c4 k x0 x1 (w64 (x5 + 1))) else (some (false)))) else none) else none) else none) else none) else (some (true)))
noncomputable def laws_eqVolS.f (k : Nat) (a0 : List S96) (a1 : List S96) : Option (Bool) := (if (a0.length : Int) = (a1.length : Int) then (laws_eqVolS.c4 k a0 a1 0) else (some (false)))
noncomputable def laws_eqVolS.e (r : Bool) : Res Ty D := (.sc (.bool r), [], [])
noncomputable abbrev laws_eqVolS.g (rec : List Item → St Ty D → R) (k : Nat) := go1 Tryz.f38 (laws_eqVolS.ctx k) laws_eqVolS.sp 0 laws_eqVolS.en rec
set_option maxRecDepth 100000 in
theorem laws_eqVolS.t4 (rec : List Item → St Ty D → R) (k : Nat) (x0 : List S96) (x1 : List S96) (x5 : Int) : laws_eqVolS.g rec k (td Tryz.f38 4) (laws_eqVolS.s4 x0 x1 x5) =
  bif decide (x5 < (x0.length : Int)) then bif decide (0 ≤ x5) then bif decide (x5 < (x0.length : Int)) then bif decide (0 ≤ x5) then bif decide (x5 < (x1.length : Int)) then (laws_eqVol.f k ((rd_T96 x0 x5).f0) ((rd_T96 x0 x5).f1) ((rd_T96 x1 x5).f0) ((rd_T96 x1 x5).f1)).bind fun t1 => bif !t1 then some (laws_eqVolS.e (false)) else rec (td Tryz.f38 4) (laws_eqVolS.s4 x0 x1 (w64 (x5 + 1))) else none else none else none else none else some (laws_eqVolS.e (true)) := by kernel_rfl
set_option maxRecDepth 100000 in
theorem laws_eqVolS.te (rec : List Item → St Ty D → R) (k : Nat) (a0 : List S96) (a1 : List S96) : laws_eqVolS.g rec k [.code (body Tryz.f38)] (startSt [.row 0 .t96 a0, .row 0 .t96 a1] []) =
  bif !decide ((a0.length : Int) = (a1.length : Int)) then some (laws_eqVolS.e (false)) else rec (td Tryz.f38 4) (laws_eqVolS.s4 a0 a1 0) := by kernel_rfl
set_option maxRecDepth 100000 in
theorem laws_eqVolS.ok : ∀ k : Nat, (∀ (x0 : List S96) (x1 : List S96) (x5 : Int), goF Tryz.f38 laws_eqVolS.ctx laws_eqVolS.sp 0 laws_eqVolS.en k (td Tryz.f38 4) (laws_eqVolS.s4 x0 x1 x5) = (laws_eqVolS.c4 k x0 x1 x5).map laws_eqVolS.e)
  | 0 => fun _ _ _ => rfl
  | k + 1 => by
    have ih := laws_eqVolS.ok k
    have i4 := ih
    intro x0 x1 x5; rw [laws_eqVolS.c4]; exact (laws_eqVolS.t4 _ k x0 x1 x5).trans (cd (cd (cd (cd (cd (bn (fun t1 => (nb rfl (i4 _ _ _)))) rfl) rfl) rfl) rfl) rfl)
set_option maxRecDepth 100000 in
theorem laws_eqVolS.oke (k : Nat) (a0 : List S96) (a1 : List S96) : goF Tryz.f38 laws_eqVolS.ctx laws_eqVolS.sp 0 laws_eqVolS.en (k + 1) [.code (body Tryz.f38)] (startSt [.row 0 .t96 a0, .row 0 .t96 a1] []) = (laws_eqVolS.f k a0 a1).map laws_eqVolS.e := by
  have i4 := laws_eqVolS.ok k
  rw [laws_eqVolS.f]; exact (laws_eqVolS.te _ k a0 a1).trans (nd rfl (i4 _ _ _))
theorem laws_eqVolS.con (k : Nat) (a0 : List S96) (a1 : List S96) (r) (h : laws_eqVolS.f k a0 a1 = some r) : Contract Tryz.prog kit 38 [.row 0 .t96 a0, .row 0 .t96 a1] [] (laws_eqVolS.e r).1 (laws_eqVolS.e r).2.1 (laws_eqVolS.e r).2.2 :=
  con_okG kitOk mix (fun k => (CtxOk.cons (laws_eqVol.xok k) CtxOk.nil)) (laws_eqVolS.oke k a0 a1) h (by kernel_rfl) (by kernel_rfl) (by kernel_rfl) rfl (by kernel_rfl) rfl rfl
noncomputable def laws_eqVolS.x (k : Nat) : X := fun ins bs κ => match ins, bs with
  | [.row 0 .t96 a0, .row 0 .t96 a1], [] => (laws_eqVolS.f k a0 a1).bind fun r => κ (laws_eqVolS.e r).1 (laws_eqVolS.e r).2.1 (laws_eqVolS.e r).2.2
  | _, _ => none
theorem laws_eqVolS.xok (k : Nat) : XOk 38 (laws_eqVolS.x k) := by
  intro ins bs κ res h
  unfold laws_eqVolS.x at h
  split at h
  · obtain ⟨r, hr, h⟩ := Option.bind_eq_some_iff.1 h
    exact ⟨_, _, _, laws_eqVolS.con k _ _ r hr, h⟩
  · cases h

/-! ### laws_eqIntS: function 135 -/
noncomputable def laws_eqIntS.sp : Nat → Option (Spec Ty) := fun r => bif Nat.beq r 4 then some ⟨[(0, .keep), (1, .keep), (5, .keep)], []⟩ else none
noncomputable def laws_eqIntS.en : Option (Spec Ty) := none
noncomputable def laws_eqIntS.s4 (x0 : List Int) (x1 : List Int) (x5 : Int) : St Ty D := ⟨(Env.put (Env.put (Env.put E (some 0) (.row 0 .t3 x0)) (some 1) (.row 0 .t3 x1)) (some 5) (.sc (.int .i64 x5))), H0, 1000⟩
noncomputable def laws_eqIntS.ctx (k : Nat) : Ctx Ty D := (fun _ _ _ _ => none)
noncomputable def laws_eqIntS.c4 : Nat → (List Int) → (List Int) → Int → Option (Bool)
  | 0, _, _, _ => none
  | k + 1, x0, x1, x5 => (if x5 < (x0.length : Int) then (if 0 ≤ x5 then (if x5 < (x0.length : Int) then (if 0 ≤ x5 then (if x5 < (x1.length : Int) then (if (rd_T3 x0 x5) = (rd_T3 x1 x5) then (laws_eqIntS.c4 k x0 x1 (w64 (x5 + 1))) else (some (false))) else none) else none) else none) else none) else (some (true)))
noncomputable def laws_eqIntS.f (k : Nat) (a0 : List Int) (a1 : List Int) : Option (Bool) := (if (a0.length : Int) = (a1.length : Int) then (laws_eqIntS.c4 k a0 a1 0) else (some (false)))
noncomputable def laws_eqIntS.e (r : Bool) : Res Ty D := (.sc (.bool r), [], [])
noncomputable abbrev laws_eqIntS.g (rec : List Item → St Ty D → R) (k : Nat) := go1 Tryz.f135 (laws_eqIntS.ctx k) laws_eqIntS.sp 0 laws_eqIntS.en rec
set_option maxRecDepth 100000 in
theorem laws_eqIntS.t4 (rec : List Item → St Ty D → R) (k : Nat) (x0 : List Int) (x1 : List Int) (x5 : Int) : laws_eqIntS.g rec k (td Tryz.f135 4) (laws_eqIntS.s4 x0 x1 x5) =
  bif decide (x5 < (x0.length : Int)) then bif decide (0 ≤ x5) then bif decide (x5 < (x0.length : Int)) then bif decide (0 ≤ x5) then bif decide (x5 < (x1.length : Int)) then bif !decide ((rd_T3 x0 x5) = (rd_T3 x1 x5)) then some (laws_eqIntS.e (false)) else rec (td Tryz.f135 4) (laws_eqIntS.s4 x0 x1 (w64 (x5 + 1))) else none else none else none else none else some (laws_eqIntS.e (true)) := by kernel_rfl
set_option maxRecDepth 100000 in
theorem laws_eqIntS.te (rec : List Item → St Ty D → R) (k : Nat) (a0 : List Int) (a1 : List Int) : laws_eqIntS.g rec k [.code (body Tryz.f135)] (startSt [.row 0 .t3 a0, .row 0 .t3 a1] []) =
  bif !decide ((a0.length : Int) = (a1.length : Int)) then some (laws_eqIntS.e (false)) else rec (td Tryz.f135 4) (laws_eqIntS.s4 a0 a1 0) := by kernel_rfl
set_option maxRecDepth 100000 in
theorem laws_eqIntS.ok : ∀ k : Nat, (∀ (x0 : List Int) (x1 : List Int) (x5 : Int), goF Tryz.f135 laws_eqIntS.ctx laws_eqIntS.sp 0 laws_eqIntS.en k (td Tryz.f135 4) (laws_eqIntS.s4 x0 x1 x5) = (laws_eqIntS.c4 k x0 x1 x5).map laws_eqIntS.e)
  | 0 => fun _ _ _ => rfl
  | k + 1 => by
    have ih := laws_eqIntS.ok k
    have i4 := ih
    intro x0 x1 x5; rw [laws_eqIntS.c4]; exact (laws_eqIntS.t4 _ k x0 x1 x5).trans (cd (cd (cd (cd (cd (nd rfl (i4 _ _ _)) rfl) rfl) rfl) rfl) rfl)
set_option maxRecDepth 100000 in
theorem laws_eqIntS.oke (k : Nat) (a0 : List Int) (a1 : List Int) : goF Tryz.f135 laws_eqIntS.ctx laws_eqIntS.sp 0 laws_eqIntS.en (k + 1) [.code (body Tryz.f135)] (startSt [.row 0 .t3 a0, .row 0 .t3 a1] []) = (laws_eqIntS.f k a0 a1).map laws_eqIntS.e := by
  have i4 := laws_eqIntS.ok k
  rw [laws_eqIntS.f]; exact (laws_eqIntS.te _ k a0 a1).trans (nd rfl (i4 _ _ _))
theorem laws_eqIntS.con (k : Nat) (a0 : List Int) (a1 : List Int) (r) (h : laws_eqIntS.f k a0 a1 = some r) : Contract Tryz.prog kit 135 [.row 0 .t3 a0, .row 0 .t3 a1] [] (laws_eqIntS.e r).1 (laws_eqIntS.e r).2.1 (laws_eqIntS.e r).2.2 :=
  con_okG kitOk mix (fun k => CtxOk.nil) (laws_eqIntS.oke k a0 a1) h (by kernel_rfl) (by kernel_rfl) (by kernel_rfl) rfl (by kernel_rfl) rfl rfl
noncomputable def laws_eqIntS.x (k : Nat) : X := fun ins bs κ => match ins, bs with
  | [.row 0 .t3 a0, .row 0 .t3 a1], [] => (laws_eqIntS.f k a0 a1).bind fun r => κ (laws_eqIntS.e r).1 (laws_eqIntS.e r).2.1 (laws_eqIntS.e r).2.2
  | _, _ => none
theorem laws_eqIntS.xok (k : Nat) : XOk 135 (laws_eqIntS.x k) := by
  intro ins bs κ res h
  unfold laws_eqIntS.x at h
  split at h
  · obtain ⟨r, hr, h⟩ := Option.bind_eq_some_iff.1 h
    exact ⟨_, _, _, laws_eqIntS.con k _ _ r hr, h⟩
  · cases h

/-! ### laws_eqKnot: function 96 -/
noncomputable def laws_eqKnot.sp : Nat → Option (Spec Ty) := fun r => none
noncomputable def laws_eqKnot.en : Option (Spec Ty) := none
noncomputable def laws_eqKnot.ctx (k : Nat) : Ctx Ty D := (cons 135 (laws_eqIntS.x k) (fun _ _ _ _ => none))
noncomputable def laws_eqKnot.f (k : Nat) (a0_0 : Bool) (a0_1 : List Int) (a1_0 : Bool) (a1_1 : List Int) : Option (Bool) := (if (a0_0 == a1_0) = true then ((laws_eqIntS.f k a0_1 a1_1).bind fun t1 => (if t1 = true then (some (true)) else (some (false)))) else (some (false)))
noncomputable def laws_eqKnot.e (r : Bool) : Res Ty D := (.sc (.bool r), [], [])
noncomputable abbrev laws_eqKnot.g (rec : List Item → St Ty D → R) (k : Nat) := go1 Tryz.f96 (laws_eqKnot.ctx k) laws_eqKnot.sp 0 laws_eqKnot.en rec
set_option maxRecDepth 100000 in
theorem laws_eqKnot.te (rec : List Item → St Ty D → R) (k : Nat) (a0_0 : Bool) (a0_1 : List Int) (a1_0 : Bool) (a1_1 : List Int) : laws_eqKnot.g rec k [.code (body Tryz.f96)] (startSt [.ag [.sc (.bool a0_0), .row 0 .t3 a0_1], .ag [.sc (.bool a1_0), .row 0 .t3 a1_1]] []) =
  bif !(a0_0 == a1_0) then some (laws_eqKnot.e (false)) else (laws_eqIntS.f k a0_1 a1_1).bind fun t1 => bif !t1 then some (laws_eqKnot.e (false)) else some (laws_eqKnot.e (true)) := by kernel_rfl
set_option maxRecDepth 100000 in
theorem laws_eqKnot.oke (k : Nat) (a0_0 : Bool) (a0_1 : List Int) (a1_0 : Bool) (a1_1 : List Int) : goF Tryz.f96 laws_eqKnot.ctx laws_eqKnot.sp 0 laws_eqKnot.en (k + 1) [.code (body Tryz.f96)] (startSt [.ag [.sc (.bool a0_0), .row 0 .t3 a0_1], .ag [.sc (.bool a1_0), .row 0 .t3 a1_1]] []) = (laws_eqKnot.f k a0_0 a0_1 a1_0 a1_1).map laws_eqKnot.e := by
  rw [laws_eqKnot.f]; exact (laws_eqKnot.te _ k a0_0 a0_1 a1_0 a1_1).trans (nb rfl (bn (fun t1 => (nb rfl rfl))))
theorem laws_eqKnot.con (k : Nat) (a0_0 : Bool) (a0_1 : List Int) (a1_0 : Bool) (a1_1 : List Int) (r) (h : laws_eqKnot.f k a0_0 a0_1 a1_0 a1_1 = some r) : Contract Tryz.prog kit 96 [.ag [.sc (.bool a0_0), .row 0 .t3 a0_1], .ag [.sc (.bool a1_0), .row 0 .t3 a1_1]] [] (laws_eqKnot.e r).1 (laws_eqKnot.e r).2.1 (laws_eqKnot.e r).2.2 :=
  con_okG kitOk mix (fun k => (CtxOk.cons (laws_eqIntS.xok k) CtxOk.nil)) (laws_eqKnot.oke k a0_0 a0_1 a1_0 a1_1) h (by kernel_rfl) (by kernel_rfl) (by kernel_rfl) rfl (by kernel_rfl) rfl rfl
noncomputable def laws_eqKnot.x (k : Nat) : X := fun ins bs κ => match ins, bs with
  | [.ag [.sc (.bool a0_0), .row 0 .t3 a0_1], .ag [.sc (.bool a1_0), .row 0 .t3 a1_1]], [] => (laws_eqKnot.f k a0_0 a0_1 a1_0 a1_1).bind fun r => κ (laws_eqKnot.e r).1 (laws_eqKnot.e r).2.1 (laws_eqKnot.e r).2.2
  | _, _ => none
theorem laws_eqKnot.xok (k : Nat) : XOk 96 (laws_eqKnot.x k) := by
  intro ins bs κ res h
  unfold laws_eqKnot.x at h
  split at h
  · obtain ⟨r, hr, h⟩ := Option.bind_eq_some_iff.1 h
    exact ⟨_, _, _, laws_eqKnot.con k _ _ _ _ r hr, h⟩
  · cases h

/-! ### laws_eqKnotS: function 64 -/
noncomputable def laws_eqKnotS.sp : Nat → Option (Spec Ty) := fun r => bif Nat.beq r 4 then some ⟨[(0, .keep), (1, .keep), (5, .keep)], []⟩ else none
noncomputable def laws_eqKnotS.en : Option (Spec Ty) := none
noncomputable def laws_eqKnotS.s4 (x0 : List S132) (x1 : List S132) (x5 : Int) : St Ty D := ⟨(Env.put (Env.put (Env.put E (some 0) (.row 0 .t132 x0)) (some 1) (.row 0 .t132 x1)) (some 5) (.sc (.int .i64 x5))), H0, 1000⟩
noncomputable def laws_eqKnotS.ctx (k : Nat) : Ctx Ty D := (cons 96 (laws_eqKnot.x k) (fun _ _ _ _ => none))
noncomputable def laws_eqKnotS.c4 : Nat → (List S132) → (List S132) → Int → Option (Bool)
  | 0, _, _, _ => none
  | k + 1, x0, x1, x5 => (if x5 < (x0.length : Int) then (if 0 ≤ x5 then (if x5 < (x0.length : Int) then (if 0 ≤ x5 then (if x5 < (x1.length : Int) then ((laws_eqKnot.f k ((rd_T132 x0 x5).f0) ((rd_T132 x0 x5).f1) ((rd_T132 x1 x5).f0) ((rd_T132 x1 x5).f1)).bind fun t1 => (if t1 = true then (laws_eqKnotS.c4 k x0 x1 (w64 (x5 + 1))) else (some (false)))) else none) else none) else none) else none) else (some (true)))
noncomputable def laws_eqKnotS.f (k : Nat) (a0 : List S132) (a1 : List S132) : Option (Bool) := (if (a0.length : Int) = (a1.length : Int) then (laws_eqKnotS.c4 k a0 a1 0) else (some (false)))
noncomputable def laws_eqKnotS.e (r : Bool) : Res Ty D := (.sc (.bool r), [], [])
noncomputable abbrev laws_eqKnotS.g (rec : List Item → St Ty D → R) (k : Nat) := go1 Tryz.f64 (laws_eqKnotS.ctx k) laws_eqKnotS.sp 0 laws_eqKnotS.en rec
set_option maxRecDepth 100000 in
theorem laws_eqKnotS.t4 (rec : List Item → St Ty D → R) (k : Nat) (x0 : List S132) (x1 : List S132) (x5 : Int) : laws_eqKnotS.g rec k (td Tryz.f64 4) (laws_eqKnotS.s4 x0 x1 x5) =
  bif decide (x5 < (x0.length : Int)) then bif decide (0 ≤ x5) then bif decide (x5 < (x0.length : Int)) then bif decide (0 ≤ x5) then bif decide (x5 < (x1.length : Int)) then (laws_eqKnot.f k ((rd_T132 x0 x5).f0) ((rd_T132 x0 x5).f1) ((rd_T132 x1 x5).f0) ((rd_T132 x1 x5).f1)).bind fun t1 => bif !t1 then some (laws_eqKnotS.e (false)) else rec (td Tryz.f64 4) (laws_eqKnotS.s4 x0 x1 (w64 (x5 + 1))) else none else none else none else none else some (laws_eqKnotS.e (true)) := by kernel_rfl
set_option maxRecDepth 100000 in
theorem laws_eqKnotS.te (rec : List Item → St Ty D → R) (k : Nat) (a0 : List S132) (a1 : List S132) : laws_eqKnotS.g rec k [.code (body Tryz.f64)] (startSt [.row 0 .t132 a0, .row 0 .t132 a1] []) =
  bif !decide ((a0.length : Int) = (a1.length : Int)) then some (laws_eqKnotS.e (false)) else rec (td Tryz.f64 4) (laws_eqKnotS.s4 a0 a1 0) := by kernel_rfl
set_option maxRecDepth 100000 in
theorem laws_eqKnotS.ok : ∀ k : Nat, (∀ (x0 : List S132) (x1 : List S132) (x5 : Int), goF Tryz.f64 laws_eqKnotS.ctx laws_eqKnotS.sp 0 laws_eqKnotS.en k (td Tryz.f64 4) (laws_eqKnotS.s4 x0 x1 x5) = (laws_eqKnotS.c4 k x0 x1 x5).map laws_eqKnotS.e)
  | 0 => fun _ _ _ => rfl
  | k + 1 => by
    have ih := laws_eqKnotS.ok k
    have i4 := ih
    intro x0 x1 x5; rw [laws_eqKnotS.c4]; exact (laws_eqKnotS.t4 _ k x0 x1 x5).trans (cd (cd (cd (cd (cd (bn (fun t1 => (nb rfl (i4 _ _ _)))) rfl) rfl) rfl) rfl) rfl)
set_option maxRecDepth 100000 in
theorem laws_eqKnotS.oke (k : Nat) (a0 : List S132) (a1 : List S132) : goF Tryz.f64 laws_eqKnotS.ctx laws_eqKnotS.sp 0 laws_eqKnotS.en (k + 1) [.code (body Tryz.f64)] (startSt [.row 0 .t132 a0, .row 0 .t132 a1] []) = (laws_eqKnotS.f k a0 a1).map laws_eqKnotS.e := by
  have i4 := laws_eqKnotS.ok k
  rw [laws_eqKnotS.f]; exact (laws_eqKnotS.te _ k a0 a1).trans (nd rfl (i4 _ _ _))
theorem laws_eqKnotS.con (k : Nat) (a0 : List S132) (a1 : List S132) (r) (h : laws_eqKnotS.f k a0 a1 = some r) : Contract Tryz.prog kit 64 [.row 0 .t132 a0, .row 0 .t132 a1] [] (laws_eqKnotS.e r).1 (laws_eqKnotS.e r).2.1 (laws_eqKnotS.e r).2.2 :=
  con_okG kitOk mix (fun k => (CtxOk.cons (laws_eqKnot.xok k) CtxOk.nil)) (laws_eqKnotS.oke k a0 a1) h (by kernel_rfl) (by kernel_rfl) (by kernel_rfl) rfl (by kernel_rfl) rfl rfl
noncomputable def laws_eqKnotS.x (k : Nat) : X := fun ins bs κ => match ins, bs with
  | [.row 0 .t132 a0, .row 0 .t132 a1], [] => (laws_eqKnotS.f k a0 a1).bind fun r => κ (laws_eqKnotS.e r).1 (laws_eqKnotS.e r).2.1 (laws_eqKnotS.e r).2.2
  | _, _ => none
theorem laws_eqKnotS.xok (k : Nat) : XOk 64 (laws_eqKnotS.x k) := by
  intro ins bs κ res h
  unfold laws_eqKnotS.x at h
  split at h
  · obtain ⟨r, hr, h⟩ := Option.bind_eq_some_iff.1 h
    exact ⟨_, _, _, laws_eqKnotS.con k _ _ r hr, h⟩
  · cases h

/-! ### laws_eqArena: function 39 -/
noncomputable def laws_eqArena.sp : Nat → Option (Spec Ty) := fun r => none
noncomputable def laws_eqArena.en : Option (Spec Ty) := none
noncomputable def laws_eqArena.ctx (k : Nat) : Ctx Ty D := (cons 64 (laws_eqKnotS.x k) (fun _ _ _ _ => none))
noncomputable def laws_eqArena.f (k : Nat) (a0_0 : List S132) (a1_0 : List S132) : Option (Bool) := ((laws_eqKnotS.f k a0_0 a1_0).bind fun t1 => (if t1 = true then (some (true)) else (some (false))))
noncomputable def laws_eqArena.e (r : Bool) : Res Ty D := (.sc (.bool r), [], [])
noncomputable abbrev laws_eqArena.g (rec : List Item → St Ty D → R) (k : Nat) := go1 Tryz.f39 (laws_eqArena.ctx k) laws_eqArena.sp 0 laws_eqArena.en rec
set_option maxRecDepth 100000 in
theorem laws_eqArena.te (rec : List Item → St Ty D → R) (k : Nat) (a0_0 : List S132) (a1_0 : List S132) : laws_eqArena.g rec k [.code (body Tryz.f39)] (startSt [.ag [.row 0 .t132 a0_0], .ag [.row 0 .t132 a1_0]] []) =
  (laws_eqKnotS.f k a0_0 a1_0).bind fun t1 => bif !t1 then some (laws_eqArena.e (false)) else some (laws_eqArena.e (true)) := by kernel_rfl
set_option maxRecDepth 100000 in
theorem laws_eqArena.oke (k : Nat) (a0_0 : List S132) (a1_0 : List S132) : goF Tryz.f39 laws_eqArena.ctx laws_eqArena.sp 0 laws_eqArena.en (k + 1) [.code (body Tryz.f39)] (startSt [.ag [.row 0 .t132 a0_0], .ag [.row 0 .t132 a1_0]] []) = (laws_eqArena.f k a0_0 a1_0).map laws_eqArena.e := by
  rw [laws_eqArena.f]; exact (laws_eqArena.te _ k a0_0 a1_0).trans (bn (fun t1 => (nb rfl rfl)))
theorem laws_eqArena.con (k : Nat) (a0_0 : List S132) (a1_0 : List S132) (r) (h : laws_eqArena.f k a0_0 a1_0 = some r) : Contract Tryz.prog kit 39 [.ag [.row 0 .t132 a0_0], .ag [.row 0 .t132 a1_0]] [] (laws_eqArena.e r).1 (laws_eqArena.e r).2.1 (laws_eqArena.e r).2.2 :=
  con_okG kitOk mix (fun k => (CtxOk.cons (laws_eqKnotS.xok k) CtxOk.nil)) (laws_eqArena.oke k a0_0 a1_0) h (by kernel_rfl) (by kernel_rfl) (by kernel_rfl) rfl (by kernel_rfl) rfl rfl
noncomputable def laws_eqArena.x (k : Nat) : X := fun ins bs κ => match ins, bs with
  | [.ag [.row 0 .t132 a0_0], .ag [.row 0 .t132 a1_0]], [] => (laws_eqArena.f k a0_0 a1_0).bind fun r => κ (laws_eqArena.e r).1 (laws_eqArena.e r).2.1 (laws_eqArena.e r).2.2
  | _, _ => none
theorem laws_eqArena.xok (k : Nat) : XOk 39 (laws_eqArena.x k) := by
  intro ins bs κ res h
  unfold laws_eqArena.x at h
  split at h
  · obtain ⟨r, hr, h⟩ := Option.bind_eq_some_iff.1 h
    exact ⟨_, _, _, laws_eqArena.con k _ _ r hr, h⟩
  · cases h
end Go.Proofs.YtmboeckendhdnaaGreat.M2

/- Plain runs of functions: each is a plain Lean function, and keeps its contract. Written by a program of this session. -/
namespace Go.Proofs.YtmboeckendhdnaaGreat.M2
open Go Go.Proofs.YtmboeckendhdnaaGreat.PK
set_option linter.unusedVariables false
set_option linter.unusedSimpArgs false
set_option maxHeartbeats 4000000
/-! ### laws_eqStore: function 14 -/
noncomputable def laws_eqStore.sp : Nat → Option (Spec Ty) := fun r => none
noncomputable def laws_eqStore.en : Option (Spec Ty) := none
noncomputable def laws_eqStore.ctx (k : Nat) : Ctx Ty D := (cons 38 (laws_eqVolS.x k) (cons 39 (laws_eqArena.x k) (fun _ _ _ _ => none)))
noncomputable def laws_eqStore.f (k : Nat) (a0_0 : List S96) (a0_1 : List S132) (a0_2 : Int) (a1_0 : List S96) (a1_1 : List S132) (a1_2 : Int) : Option (Bool) := ((laws_eqVolS.f k a0_0 a1_0).bind fun t1 => (if t1 = true then ((laws_eqArena.f k a0_1 a1_1).bind fun t2 => (if t2 = true then (if a0_2 = a1_2 then (some (true)) else (some (false))) else (some (false)))) else (some (false))))
noncomputable def laws_eqStore.e (r : Bool) : Res Ty D := (.sc (.bool r), [], [])
noncomputable abbrev laws_eqStore.g (rec : List Item → St Ty D → R) (k : Nat) := go1 Tryz.f14 (laws_eqStore.ctx k) laws_eqStore.sp 0 laws_eqStore.en rec
set_option maxRecDepth 100000 in
theorem laws_eqStore.te (rec : List Item → St Ty D → R) (k : Nat) (a0_0 : List S96) (a0_1 : List S132) (a0_2 : Int) (a1_0 : List S96) (a1_1 : List S132) (a1_2 : Int) : laws_eqStore.g rec k [.code (body Tryz.f14)] (startSt [.ag [.row 0 .t96 a0_0, .row 0 .t132 a0_1, .sc (.int .i64 a0_2)], .ag [.row 0 .t96 a1_0, .row 0 .t132 a1_1, .sc (.int .i64 a1_2)]] []) =
  (laws_eqVolS.f k a0_0 a1_0).bind fun t1 => bif !t1 then some (laws_eqStore.e (false)) else (laws_eqArena.f k a0_1 a1_1).bind fun t2 => bif !t2 then some (laws_eqStore.e (false)) else bif !decide (a0_2 = a1_2) then some (laws_eqStore.e (false)) else some (laws_eqStore.e (true)) := by kernel_rfl
set_option maxRecDepth 100000 in
theorem laws_eqStore.oke (k : Nat) (a0_0 : List S96) (a0_1 : List S132) (a0_2 : Int) (a1_0 : List S96) (a1_1 : List S132) (a1_2 : Int) : goF Tryz.f14 laws_eqStore.ctx laws_eqStore.sp 0 laws_eqStore.en (k + 1) [.code (body Tryz.f14)] (startSt [.ag [.row 0 .t96 a0_0, .row 0 .t132 a0_1, .sc (.int .i64 a0_2)], .ag [.row 0 .t96 a1_0, .row 0 .t132 a1_1, .sc (.int .i64 a1_2)]] []) = (laws_eqStore.f k a0_0 a0_1 a0_2 a1_0 a1_1 a1_2).map laws_eqStore.e := by
  rw [laws_eqStore.f]; exact (laws_eqStore.te _ k a0_0 a0_1 a0_2 a1_0 a1_1 a1_2).trans (bn (fun t1 => (nb rfl (bn (fun t2 => (nb rfl (nd rfl rfl)))))))
theorem laws_eqStore.con (k : Nat) (a0_0 : List S96) (a0_1 : List S132) (a0_2 : Int) (a1_0 : List S96) (a1_1 : List S132) (a1_2 : Int) (r) (h : laws_eqStore.f k a0_0 a0_1 a0_2 a1_0 a1_1 a1_2 = some r) : Contract Tryz.prog kit 14 [.ag [.row 0 .t96 a0_0, .row 0 .t132 a0_1, .sc (.int .i64 a0_2)], .ag [.row 0 .t96 a1_0, .row 0 .t132 a1_1, .sc (.int .i64 a1_2)]] [] (laws_eqStore.e r).1 (laws_eqStore.e r).2.1 (laws_eqStore.e r).2.2 :=
  con_okG kitOk mix (fun k => (CtxOk.cons (laws_eqVolS.xok k) (CtxOk.cons (laws_eqArena.xok k) CtxOk.nil))) (laws_eqStore.oke k a0_0 a0_1 a0_2 a1_0 a1_1 a1_2) h (by kernel_rfl) (by kernel_rfl) (by kernel_rfl) rfl (by kernel_rfl) rfl rfl
noncomputable def laws_eqStore.x (k : Nat) : X := fun ins bs κ => match ins, bs with
  | [.ag [.row 0 .t96 a0_0, .row 0 .t132 a0_1, .sc (.int .i64 a0_2)], .ag [.row 0 .t96 a1_0, .row 0 .t132 a1_1, .sc (.int .i64 a1_2)]], [] => (laws_eqStore.f k a0_0 a0_1 a0_2 a1_0 a1_1 a1_2).bind fun r => κ (laws_eqStore.e r).1 (laws_eqStore.e r).2.1 (laws_eqStore.e r).2.2
  | _, _ => none
theorem laws_eqStore.xok (k : Nat) : XOk 14 (laws_eqStore.x k) := by
  intro ins bs κ res h
  unfold laws_eqStore.x at h
  split at h
  · obtain ⟨r, hr, h⟩ := Option.bind_eq_some_iff.1 h
    exact ⟨_, _, _, laws_eqStore.con k _ _ _ _ _ _ r hr, h⟩
  · cases h

/-! ### laws_eqDevice: function 6 -/
noncomputable def laws_eqDevice.sp : Nat → Option (Spec Ty) := fun r => none
noncomputable def laws_eqDevice.en : Option (Spec Ty) := none
noncomputable def laws_eqDevice.ctx (k : Nat) : Ctx Ty D := (cons 13 (laws_eqFlash.x k) (cons 14 (laws_eqStore.x k) (fun _ _ _ _ => none)))
noncomputable def laws_eqDevice.f (k : Nat) (a0_0 : List S48) (a0_1 : List S96) (a0_2 : List S132) (a0_3 : Int) (a0_4 : Int) (a0_5 : Int) (a0_6 : Int) (a1_0 : List S48) (a1_1 : List S96) (a1_2 : List S132) (a1_3 : Int) (a1_4 : Int) (a1_5 : Int) (a1_6 : Int) : Option (Bool) := ((laws_eqFlash.f k a0_0 a1_0).bind fun t1 => (if t1 = true then ((laws_eqStore.f k a0_1 a0_2 a0_3 a1_1 a1_2 a1_3).bind fun t2 => (if t2 = true then (if a0_4 = a1_4 then (if a0_5 = a1_5 then (if a0_6 = a1_6 then (some (true)) else (some (false))) else (some (false))) else (some (false))) else (some (false)))) else (some (false))))
noncomputable def laws_eqDevice.e (r : Bool) : Res Ty D := (.sc (.bool r), [], [])
noncomputable abbrev laws_eqDevice.g (rec : List Item → St Ty D → R) (k : Nat) := go1 Tryz.f6 (laws_eqDevice.ctx k) laws_eqDevice.sp 0 laws_eqDevice.en rec
set_option maxRecDepth 100000 in
theorem laws_eqDevice.te (rec : List Item → St Ty D → R) (k : Nat) (a0_0 : List S48) (a0_1 : List S96) (a0_2 : List S132) (a0_3 : Int) (a0_4 : Int) (a0_5 : Int) (a0_6 : Int) (a1_0 : List S48) (a1_1 : List S96) (a1_2 : List S132) (a1_3 : Int) (a1_4 : Int) (a1_5 : Int) (a1_6 : Int) : laws_eqDevice.g rec k [.code (body Tryz.f6)] (startSt [.ag [.row 0 .t48 a0_0, .row 0 .t96 a0_1, .row 0 .t132 a0_2, .sc (.int .i64 a0_3), .sc (.int .i64 a0_4), .sc (.int .i64 a0_5), .sc (.int .i64 a0_6)], .ag [.row 0 .t48 a1_0, .row 0 .t96 a1_1, .row 0 .t132 a1_2, .sc (.int .i64 a1_3), .sc (.int .i64 a1_4), .sc (.int .i64 a1_5), .sc (.int .i64 a1_6)]] []) =
  (laws_eqFlash.f k a0_0 a1_0).bind fun t1 => bif !t1 then some (laws_eqDevice.e (false)) else (laws_eqStore.f k a0_1 a0_2 a0_3 a1_1 a1_2 a1_3).bind fun t2 => bif !t2 then some (laws_eqDevice.e (false)) else bif !decide (a0_4 = a1_4) then some (laws_eqDevice.e (false)) else bif !decide (a0_5 = a1_5) then some (laws_eqDevice.e (false)) else bif !decide (a0_6 = a1_6) then some (laws_eqDevice.e (false)) else some (laws_eqDevice.e (true)) := by kernel_rfl
set_option maxRecDepth 100000 in
theorem laws_eqDevice.oke (k : Nat) (a0_0 : List S48) (a0_1 : List S96) (a0_2 : List S132) (a0_3 : Int) (a0_4 : Int) (a0_5 : Int) (a0_6 : Int) (a1_0 : List S48) (a1_1 : List S96) (a1_2 : List S132) (a1_3 : Int) (a1_4 : Int) (a1_5 : Int) (a1_6 : Int) : goF Tryz.f6 laws_eqDevice.ctx laws_eqDevice.sp 0 laws_eqDevice.en (k + 1) [.code (body Tryz.f6)] (startSt [.ag [.row 0 .t48 a0_0, .row 0 .t96 a0_1, .row 0 .t132 a0_2, .sc (.int .i64 a0_3), .sc (.int .i64 a0_4), .sc (.int .i64 a0_5), .sc (.int .i64 a0_6)], .ag [.row 0 .t48 a1_0, .row 0 .t96 a1_1, .row 0 .t132 a1_2, .sc (.int .i64 a1_3), .sc (.int .i64 a1_4), .sc (.int .i64 a1_5), .sc (.int .i64 a1_6)]] []) = (laws_eqDevice.f k a0_0 a0_1 a0_2 a0_3 a0_4 a0_5 a0_6 a1_0 a1_1 a1_2 a1_3 a1_4 a1_5 a1_6).map laws_eqDevice.e := by
  rw [laws_eqDevice.f]; exact (laws_eqDevice.te _ k a0_0 a0_1 a0_2 a0_3 a0_4 a0_5 a0_6 a1_0 a1_1 a1_2 a1_3 a1_4 a1_5 a1_6).trans (bn (fun t1 => (nb rfl (bn (fun t2 => (nb rfl (nd rfl (nd rfl (nd rfl rfl)))))))))
theorem laws_eqDevice.con (k : Nat) (a0_0 : List S48) (a0_1 : List S96) (a0_2 : List S132) (a0_3 : Int) (a0_4 : Int) (a0_5 : Int) (a0_6 : Int) (a1_0 : List S48) (a1_1 : List S96) (a1_2 : List S132) (a1_3 : Int) (a1_4 : Int) (a1_5 : Int) (a1_6 : Int) (r) (h : laws_eqDevice.f k a0_0 a0_1 a0_2 a0_3 a0_4 a0_5 a0_6 a1_0 a1_1 a1_2 a1_3 a1_4 a1_5 a1_6 = some r) : Contract Tryz.prog kit 6 [.ag [.row 0 .t48 a0_0, .row 0 .t96 a0_1, .row 0 .t132 a0_2, .sc (.int .i64 a0_3), .sc (.int .i64 a0_4), .sc (.int .i64 a0_5), .sc (.int .i64 a0_6)], .ag [.row 0 .t48 a1_0, .row 0 .t96 a1_1, .row 0 .t132 a1_2, .sc (.int .i64 a1_3), .sc (.int .i64 a1_4), .sc (.int .i64 a1_5), .sc (.int .i64 a1_6)]] [] (laws_eqDevice.e r).1 (laws_eqDevice.e r).2.1 (laws_eqDevice.e r).2.2 :=
  con_okG kitOk mix (fun k => (CtxOk.cons (laws_eqFlash.xok k) (CtxOk.cons (laws_eqStore.xok k) CtxOk.nil))) (laws_eqDevice.oke k a0_0 a0_1 a0_2 a0_3 a0_4 a0_5 a0_6 a1_0 a1_1 a1_2 a1_3 a1_4 a1_5 a1_6) h (by kernel_rfl) (by kernel_rfl) (by kernel_rfl) rfl (by kernel_rfl) rfl rfl
noncomputable def laws_eqDevice.x (k : Nat) : X := fun ins bs κ => match ins, bs with
  | [.ag [.row 0 .t48 a0_0, .row 0 .t96 a0_1, .row 0 .t132 a0_2, .sc (.int .i64 a0_3), .sc (.int .i64 a0_4), .sc (.int .i64 a0_5), .sc (.int .i64 a0_6)], .ag [.row 0 .t48 a1_0, .row 0 .t96 a1_1, .row 0 .t132 a1_2, .sc (.int .i64 a1_3), .sc (.int .i64 a1_4), .sc (.int .i64 a1_5), .sc (.int .i64 a1_6)]], [] => (laws_eqDevice.f k a0_0 a0_1 a0_2 a0_3 a0_4 a0_5 a0_6 a1_0 a1_1 a1_2 a1_3 a1_4 a1_5 a1_6).bind fun r => κ (laws_eqDevice.e r).1 (laws_eqDevice.e r).2.1 (laws_eqDevice.e r).2.2
  | _, _ => none
theorem laws_eqDevice.xok (k : Nat) : XOk 6 (laws_eqDevice.x k) := by
  intro ins bs κ res h
  unfold laws_eqDevice.x at h
  split at h
  · obtain ⟨r, hr, h⟩ := Option.bind_eq_some_iff.1 h
    exact ⟨_, _, _, laws_eqDevice.con k _ _ _ _ _ _ _ _ _ _ _ _ _ _ r hr, h⟩
  · cases h

/-! ### laws_markText: function 97 -/
noncomputable def laws_markText.sp : Nat → Option (Spec Ty) := fun r => bif Nat.beq r 4 then some ⟨[(0, .keep), (3, .keep)], []⟩ else none
noncomputable def laws_markText.en : Option (Spec Ty) := none
noncomputable def laws_markText.s4 (x0 : Int) (x3 : ByteArray) : St Ty D := ⟨(Env.put (Env.put E (some 0) (.sc (.int .i64 x0))) (some 3) (.sc (.string x3))), H0, 1000⟩
noncomputable def laws_markText.ctx (k : Nat) : Ctx Ty D := (fun _ _ _ _ => none)
noncomputable def laws_markText.c4 : Nat → Int → ByteArray → Option (ByteArray)
  | 0, _, _ => none
  | k + 1, x0, x3 => (if x0 > 0 then (if (strOfNums ([(Go.IntKind.wrap .u8 ((w64 (48 + (Int.tmod x0 10)))))] : List Int)).size + x3.size ≤ 9223372036854775807 then (laws_markText.c4 k (w64 (Int.tdiv x0 10)) ((strOfNums ([(Go.IntKind.wrap .u8 ((w64 (48 + (Int.tmod x0 10)))))] : List Int)) ++ x3)) else none) else (if (⟨#[109]⟩ : ByteArray).size + x3.size ≤ 9223372036854775807 then (some (((⟨#[109]⟩ : ByteArray) ++ x3))) else none))
noncomputable def laws_markText.f (k : Nat) (a0 : Int) : Option (ByteArray) := (if a0 ≤ 0 then (some ((⟨#[109, 48]⟩ : ByteArray))) else (laws_markText.c4 k a0 (⟨#[]⟩ : ByteArray)))
noncomputable def laws_markText.e (r : ByteArray) : Res Ty D := (.sc (.string r), [], [])
noncomputable abbrev laws_markText.g (rec : List Item → St Ty D → R) (k : Nat) := go1 Tryz.f97 (laws_markText.ctx k) laws_markText.sp 0 laws_markText.en rec
set_option maxRecDepth 100000 in
theorem laws_markText.t4 (rec : List Item → St Ty D → R) (k : Nat) (x0 : Int) (x3 : ByteArray) : laws_markText.g rec k (td Tryz.f97 4) (laws_markText.s4 x0 x3) =
  bif decide (x0 > 0) then bif decide ((strOfNums ([(Go.IntKind.wrap .u8 ((w64 (48 + (Int.tmod x0 10)))))] : List Int)).size + x3.size ≤ 9223372036854775807) then rec (td Tryz.f97 4) (laws_markText.s4 (w64 (Int.tdiv x0 10)) ((strOfNums ([(Go.IntKind.wrap .u8 ((w64 (48 + (Int.tmod x0 10)))))] : List Int)) ++ x3)) else none else bif decide ((⟨#[109]⟩ : ByteArray).size + x3.size ≤ 9223372036854775807) then some (laws_markText.e (((⟨#[109]⟩ : ByteArray) ++ x3))) else none := by kernel_rfl
set_option maxRecDepth 100000 in
theorem laws_markText.te (rec : List Item → St Ty D → R) (k : Nat) (a0 : Int) : laws_markText.g rec k [.code (body Tryz.f97)] (startSt [.sc (.int .i64 a0)] []) =
  bif decide (a0 ≤ 0) then some (laws_markText.e ((⟨#[109, 48]⟩ : ByteArray))) else rec (td Tryz.f97 4) (laws_markText.s4 a0 (⟨#[]⟩ : ByteArray)) := by kernel_rfl
set_option maxRecDepth 100000 in
theorem laws_markText.ok : ∀ k : Nat, (∀ (x0 : Int) (x3 : ByteArray), goF Tryz.f97 laws_markText.ctx laws_markText.sp 0 laws_markText.en k (td Tryz.f97 4) (laws_markText.s4 x0 x3) = (laws_markText.c4 k x0 x3).map laws_markText.e)
  | 0 => fun _ _ => rfl
  | k + 1 => by
    have ih := laws_markText.ok k
    have i4 := ih
    intro x0 x3; rw [laws_markText.c4]; exact (laws_markText.t4 _ k x0 x3).trans (cd (cd (i4 _ _) rfl) (cd rfl rfl))
set_option maxRecDepth 100000 in
theorem laws_markText.oke (k : Nat) (a0 : Int) : goF Tryz.f97 laws_markText.ctx laws_markText.sp 0 laws_markText.en (k + 1) [.code (body Tryz.f97)] (startSt [.sc (.int .i64 a0)] []) = (laws_markText.f k a0).map laws_markText.e := by
  have i4 := laws_markText.ok k
  rw [laws_markText.f]; exact (laws_markText.te _ k a0).trans (cd rfl (i4 _ _))
theorem laws_markText.con (k : Nat) (a0 : Int) (r) (h : laws_markText.f k a0 = some r) : Contract Tryz.prog kit 97 [.sc (.int .i64 a0)] [] (laws_markText.e r).1 (laws_markText.e r).2.1 (laws_markText.e r).2.2 :=
  con_okG kitOk mix (fun k => CtxOk.nil) (laws_markText.oke k a0) h (by kernel_rfl) (by kernel_rfl) (by kernel_rfl) rfl (by kernel_rfl) rfl rfl
noncomputable def laws_markText.x (k : Nat) : X := fun ins bs κ => match ins, bs with
  | [.sc (.int .i64 a0)], [] => (laws_markText.f k a0).bind fun r => κ (laws_markText.e r).1 (laws_markText.e r).2.1 (laws_markText.e r).2.2
  | _, _ => none
theorem laws_markText.xok (k : Nat) : XOk 97 (laws_markText.x k) := by
  intro ins bs κ res h
  unfold laws_markText.x at h
  split at h
  · obtain ⟨r, hr, h⟩ := Option.bind_eq_some_iff.1 h
    exact ⟨_, _, _, laws_markText.con k _ r hr, h⟩
  · cases h

/-! ### laws_markLeafS: function 65 -/
noncomputable def laws_markLeafS.sp : Nat → Option (Spec Ty) := fun r => bif Nat.beq r 2 then some ⟨[(0, .own .t76), (1, .keep), (5, .keep)], [(0, none)]⟩ else none
noncomputable def laws_markLeafS.en : Option (Spec Ty) := none
noncomputable def laws_markLeafS.s2 (x1 : Int) (x5 : Int) (h0 : List S76) : St Ty D := ⟨(Env.put (Env.put (Env.put E (some 0) (.sl 0 none)) (some 1) (.sc (.int .i64 x1))) (some 5) (.sc (.int .i64 x5))), Heap.put H0 [(0, some (.rowb .t76 h0 0))], 1000⟩
noncomputable def laws_markLeafS.ctx (k : Nat) : Ctx Ty D := (cons 97 (laws_markText.x k) (fun _ _ _ _ => none))
noncomputable def laws_markLeafS.c2 : Nat → Int → Int → (List S76) → Option (Int × (List S76))
  | 0, _, _, _ => none
  | k + 1, x1, x5, h0 => (if x5 < (h0.length : Int) then (if 0 ≤ x5 then (if x5 < (h0.length : Int) then ((laws_markText.f k (w64 (x1 + 1))).bind fun t1 => (if 0 ≤ x5 then (if x5 < ((h0.set x5.toNat (S76.mk x1 ((rd_T76 h0 x5).f1))).length : Int) then (laws_markLeafS.c2 k (w64 ((w64 (x1 + 1)) + 1)) (w64 (x5 + 1)) ((h0.set x5.toNat (S76.mk x1 ((rd_T76 h0 x5).f1))).set x5.toNat (S76.mk ((rd_T76 (h0.set x5.toNat (S76.mk x1 ((rd_T76 h0 x5).f1))) x5).f0) t1))) else none) else none)) else none) else none) else (some (x1, h0)))
noncomputable def laws_markLeafS.f (k : Nat) (a1 : Int) (a0 : List S76) : Option (Int × (List S76)) := (laws_markLeafS.c2 k a1 0 a0)
noncomputable def laws_markLeafS.e (r : Int × (List S76)) : Res Ty D := (.sc (.int .i64 r.1), [some (.rowb .t76 r.2 0)], [])
noncomputable abbrev laws_markLeafS.g (rec : List Item → St Ty D → R) (k : Nat) := go1 Tryz.f65 (laws_markLeafS.ctx k) laws_markLeafS.sp 1 laws_markLeafS.en rec
set_option maxRecDepth 100000 in
theorem laws_markLeafS.t2 (rec : List Item → St Ty D → R) (k : Nat) (x1 : Int) (x5 : Int) (h0 : List S76) : laws_markLeafS.g rec k (td Tryz.f65 2) (laws_markLeafS.s2 x1 x5 h0) =
  bif decide (x5 < (h0.length : Int)) then bif decide (0 ≤ x5) then bif decide (x5 < (h0.length : Int)) then (laws_markText.f k (w64 (x1 + 1))).bind fun t1 => bif decide (0 ≤ x5) then bif decide (x5 < ((h0.set x5.toNat (S76.mk x1 ((rd_T76 h0 x5).f1))).length : Int)) then rec (td Tryz.f65 2) (laws_markLeafS.s2 (w64 ((w64 (x1 + 1)) + 1)) (w64 (x5 + 1)) ((h0.set x5.toNat (S76.mk x1 ((rd_T76 h0 x5).f1))).set x5.toNat (S76.mk ((rd_T76 (h0.set x5.toNat (S76.mk x1 ((rd_T76 h0 x5).f1))) x5).f0) t1))) else none else none else none else none else some (laws_markLeafS.e (x1, h0)) := by kernel_rfl
set_option maxRecDepth 100000 in
theorem laws_markLeafS.te (rec : List Item → St Ty D → R) (k : Nat) (a1 : Int) (a0 : List S76) : laws_markLeafS.g rec k [.code (body Tryz.f65)] (startSt [.sl 0 none, .sc (.int .i64 a1)] [.rowb .t76 a0 0]) =
  rec (td Tryz.f65 2) (laws_markLeafS.s2 a1 0 a0) := by kernel_rfl
set_option maxRecDepth 100000 in
theorem laws_markLeafS.ok : ∀ k : Nat, (∀ (x1 : Int) (x5 : Int) (h0 : List S76), goF Tryz.f65 laws_markLeafS.ctx laws_markLeafS.sp 1 laws_markLeafS.en k (td Tryz.f65 2) (laws_markLeafS.s2 x1 x5 h0) = (laws_markLeafS.c2 k x1 x5 h0).map laws_markLeafS.e)
  | 0 => fun _ _ _ => rfl
  | k + 1 => by
    have ih := laws_markLeafS.ok k
    have i2 := ih
    intro x1 x5 h0; rw [laws_markLeafS.c2]; exact (laws_markLeafS.t2 _ k x1 x5 h0).trans (cd (cd (cd (bn (fun t1 => (cd (cd (i2 _ _ _) rfl) rfl))) rfl) rfl) rfl)
set_option maxRecDepth 100000 in
theorem laws_markLeafS.oke (k : Nat) (a1 : Int) (a0 : List S76) : goF Tryz.f65 laws_markLeafS.ctx laws_markLeafS.sp 1 laws_markLeafS.en (k + 1) [.code (body Tryz.f65)] (startSt [.sl 0 none, .sc (.int .i64 a1)] [.rowb .t76 a0 0]) = (laws_markLeafS.f k a1 a0).map laws_markLeafS.e := by
  have i2 := laws_markLeafS.ok k
  rw [laws_markLeafS.f]; exact (laws_markLeafS.te _ k a1 a0).trans (i2 _ _ _)
theorem laws_markLeafS.con (k : Nat) (a1 : Int) (a0 : List S76) (r) (h : laws_markLeafS.f k a1 a0 = some r) : Contract Tryz.prog kit 65 [.sl 0 none, .sc (.int .i64 a1)] [.rowb .t76 a0 0] (laws_markLeafS.e r).1 (laws_markLeafS.e r).2.1 (laws_markLeafS.e r).2.2 :=
  con_okG kitOk mix (fun k => (CtxOk.cons (laws_markText.xok k) CtxOk.nil)) (laws_markLeafS.oke k a1 a0) h (by kernel_rfl) (by kernel_rfl) (by kernel_rfl) rfl (by kernel_rfl) rfl rfl
noncomputable def laws_markLeafS.x (k : Nat) : X := fun ins bs κ => match ins, bs with
  | [.sl 0 none, .sc (.int .i64 a1)], [.rowb .t76 a0 0] => (laws_markLeafS.f k a1 a0).bind fun r => κ (laws_markLeafS.e r).1 (laws_markLeafS.e r).2.1 (laws_markLeafS.e r).2.2
  | _, _ => none
theorem laws_markLeafS.xok (k : Nat) : XOk 65 (laws_markLeafS.x k) := by
  intro ins bs κ res h
  unfold laws_markLeafS.x at h
  split at h
  · obtain ⟨r, hr, h⟩ := Option.bind_eq_some_iff.1 h
    exact ⟨_, _, _, laws_markLeafS.con k _ _ r hr, h⟩
  · cases h

/-! ### laws_markBlockS: function 40 -/
noncomputable def laws_markBlockS.sp : Nat → Option (Spec Ty) := fun r => bif Nat.beq r 2 then some ⟨[(0, .own .t48), (1, .keep), (5, .keep)], [(0, none)]⟩ else none
noncomputable def laws_markBlockS.en : Option (Spec Ty) := none
noncomputable def laws_markBlockS.s2 (x1 : Int) (x5 : Int) (h0 : List S48) : St Ty D := ⟨(Env.put (Env.put (Env.put E (some 0) (.sl 0 none)) (some 1) (.sc (.int .i64 x1))) (some 5) (.sc (.int .i64 x5))), Heap.put H0 [(0, some (.rowb .t48 h0 0))], 1000⟩
noncomputable def laws_markBlockS.ctx (k : Nat) : Ctx Ty D := (cons 65 (laws_markLeafS.x k) (fun _ _ _ _ => none))
noncomputable def laws_markBlockS.c2 : Nat → Int → Int → (List S48) → Option (Int × (List S48))
  | 0, _, _, _ => none
  | k + 1, x1, x5, h0 => (if x5 < (h0.length : Int) then (if 0 ≤ x5 then (if x5 < (h0.length : Int) then (if 0 ≤ x5 then (if x5 < ((h0.set x5.toNat (S48.mk (decide ((Int.tmod x1 3) = 0)) ((rd_T48 h0 x5).f1) ((rd_T48 h0 x5).f2))).length : Int) then (if 0 ≤ x5 then (if x5 < (((h0.set x5.toNat (S48.mk (decide ((Int.tmod x1 3) = 0)) ((rd_T48 h0 x5).f1) ((rd_T48 h0 x5).f2))).set x5.toNat (S48.mk ((rd_T48 (h0.set x5.toNat (S48.mk (decide ((Int.tmod x1 3) = 0)) ((rd_T48 h0 x5).f1) ((rd_T48 h0 x5).f2))) x5).f0) (w64 (x1 + 1)) ((rd_T48 (h0.set x5.toNat (S48.mk (decide ((Int.tmod x1 3) = 0)) ((rd_T48 h0 x5).f1) ((rd_T48 h0 x5).f2))) x5).f2))).length : Int) then ((laws_markLeafS.f k (w64 ((w64 (x1 + 1)) + 1)) ((rd_T48 ((h0.set x5.toNat (S48.mk (decide ((Int.tmod x1 3) = 0)) ((rd_T48 h0 x5).f1) ((rd_T48 h0 x5).f2))).set x5.toNat (S48.mk ((rd_T48 (h0.set x5.toNat (S48.mk (decide ((Int.tmod x1 3) = 0)) ((rd_T48 h0 x5).f1) ((rd_T48 h0 x5).f2))) x5).f0) (w64 (x1 + 1)) ((rd_T48 (h0.set x5.toNat (S48.mk (decide ((Int.tmod x1 3) = 0)) ((rd_T48 h0 x5).f1) ((rd_T48 h0 x5).f2))) x5).f2))) x5).f2)).bind fun t1 => (laws_markBlockS.c2 k t1.1 (w64 (x5 + 1)) (((h0.set x5.toNat (S48.mk (decide ((Int.tmod x1 3) = 0)) ((rd_T48 h0 x5).f1) ((rd_T48 h0 x5).f2))).set x5.toNat (S48.mk ((rd_T48 (h0.set x5.toNat (S48.mk (decide ((Int.tmod x1 3) = 0)) ((rd_T48 h0 x5).f1) ((rd_T48 h0 x5).f2))) x5).f0) (w64 (x1 + 1)) ((rd_T48 (h0.set x5.toNat (S48.mk (decide ((Int.tmod x1 3) = 0)) ((rd_T48 h0 x5).f1) ((rd_T48 h0 x5).f2))) x5).f2))).set x5.toNat (S48.mk ((rd_T48 ((h0.set x5.toNat (S48.mk (decide ((Int.tmod x1 3) = 0)) ((rd_T48 h0 x5).f1) ((rd_T48 h0 x5).f2))).set x5.toNat (S48.mk ((rd_T48 (h0.set x5.toNat (S48.mk (decide ((Int.tmod x1 3) = 0)) ((rd_T48 h0 x5).f1) ((rd_T48 h0 x5).f2))) x5).f0) (w64 (x1 + 1)) ((rd_T48 (h0.set x5.toNat (S48.mk (decide ((Int.tmod x1 3) = 0)) ((rd_T48 h0 x5).f1) ((rd_T48 h0 x5).f2))) x5).f2))) x5).f0) ((rd_T48 ((h0.set x5.toNat (S48.mk (decide ((Int.tmod x1 3) = 0)) ((rd_T48 h0 x5).f1) ((rd_T48 h0 x5).f2))).set x5.toNat (S48.mk ((rd_T48 (h0.set x5.toNat (S48.mk (decide ((Int.tmod x1 3) = 0)) ((rd_T48 h0 x5).f1) ((rd_T48 h0 x5).f2))) x5).f0) (w64 (x1 + 1)) ((rd_T48 (h0.set x5.toNat (S48.mk (decide ((Int.tmod x1 3) = 0)) ((rd_T48 h0 x5).f1) ((rd_T48 h0 x5).f2))) x5).f2))) x5).f1) t1.2)))) else none) else none) else none) else none) else none) else none) else (some (x1, h0)))
noncomputable def laws_markBlockS.f (k : Nat) (a1 : Int) (a0 : List S48) : Option (Int × (List S48)) := (laws_markBlockS.c2 k a1 0 a0)
noncomputable def laws_markBlockS.e (r : Int × (List S48)) : Res Ty D := (.sc (.int .i64 r.1), [some (.rowb .t48 r.2 0)], [])
noncomputable abbrev laws_markBlockS.g (rec : List Item → St Ty D → R) (k : Nat) := go1 Tryz.f40 (laws_markBlockS.ctx k) laws_markBlockS.sp 1 laws_markBlockS.en rec
set_option maxRecDepth 100000 in
theorem laws_markBlockS.t2 (rec : List Item → St Ty D → R) (k : Nat) (x1 : Int) (x5 : Int) (h0 : List S48) : laws_markBlockS.g rec k (td Tryz.f40 2) (laws_markBlockS.s2 x1 x5 h0) =
  bif decide (x5 < (h0.length : Int)) then bif decide (0 ≤ x5) then bif decide (x5 < (h0.length : Int)) then bif decide (0 ≤ x5) then bif decide (x5 < ((h0.set x5.toNat (S48.mk (decide ((Int.tmod x1 3) = 0)) ((rd_T48 h0 x5).f1) ((rd_T48 h0 x5).f2))).length : Int)) then bif decide (0 ≤ x5) then bif decide (x5 < (((h0.set x5.toNat (S48.mk (decide ((Int.tmod x1 3) = 0)) ((rd_T48 h0 x5).f1) ((rd_T48 h0 x5).f2))).set x5.toNat (S48.mk ((rd_T48 (h0.set x5.toNat (S48.mk (decide ((Int.tmod x1 3) = 0)) ((rd_T48 h0 x5).f1) ((rd_T48 h0 x5).f2))) x5).f0) (w64 (x1 + 1)) ((rd_T48 (h0.set x5.toNat (S48.mk (decide ((Int.tmod x1 3) = 0)) ((rd_T48 h0 x5).f1) ((rd_T48 h0 x5).f2))) x5).f2))).length : Int)) then (laws_markLeafS.f k (w64 ((w64 (x1 + 1)) + 1)) ((rd_T48 ((h0.set x5.toNat (S48.mk (decide ((Int.tmod x1 3) = 0)) ((rd_T48 h0 x5).f1) ((rd_T48 h0 x5).f2))).set x5.toNat (S48.mk ((rd_T48 (h0.set x5.toNat (S48.mk (decide ((Int.tmod x1 3) = 0)) ((rd_T48 h0 x5).f1) ((rd_T48 h0 x5).f2))) x5).f0) (w64 (x1 + 1)) ((rd_T48 (h0.set x5.toNat (S48.mk (decide ((Int.tmod x1 3) = 0)) ((rd_T48 h0 x5).f1) ((rd_T48 h0 x5).f2))) x5).f2))) x5).f2)).bind fun t1 => rec (td Tryz.f40 2) (laws_markBlockS.s2 t1.1 (w64 (x5 + 1)) (((h0.set x5.toNat (S48.mk (decide ((Int.tmod x1 3) = 0)) ((rd_T48 h0 x5).f1) ((rd_T48 h0 x5).f2))).set x5.toNat (S48.mk ((rd_T48 (h0.set x5.toNat (S48.mk (decide ((Int.tmod x1 3) = 0)) ((rd_T48 h0 x5).f1) ((rd_T48 h0 x5).f2))) x5).f0) (w64 (x1 + 1)) ((rd_T48 (h0.set x5.toNat (S48.mk (decide ((Int.tmod x1 3) = 0)) ((rd_T48 h0 x5).f1) ((rd_T48 h0 x5).f2))) x5).f2))).set x5.toNat (S48.mk ((rd_T48 ((h0.set x5.toNat (S48.mk (decide ((Int.tmod x1 3) = 0)) ((rd_T48 h0 x5).f1) ((rd_T48 h0 x5).f2))).set x5.toNat (S48.mk ((rd_T48 (h0.set x5.toNat (S48.mk (decide ((Int.tmod x1 3) = 0)) ((rd_T48 h0 x5).f1) ((rd_T48 h0 x5).f2))) x5).f0) (w64 (x1 + 1)) ((rd_T48 (h0.set x5.toNat (S48.mk (decide ((Int.tmod x1 3) = 0)) ((rd_T48 h0 x5).f1) ((rd_T48 h0 x5).f2))) x5).f2))) x5).f0) ((rd_T48 ((h0.set x5.toNat (S48.mk (decide ((Int.tmod x1 3) = 0)) ((rd_T48 h0 x5).f1) ((rd_T48 h0 x5).f2))).set x5.toNat (S48.mk ((rd_T48 (h0.set x5.toNat (S48.mk (decide ((Int.tmod x1 3) = 0)) ((rd_T48 h0 x5).f1) ((rd_T48 h0 x5).f2))) x5).f0) (w64 (x1 + 1)) ((rd_T48 (h0.set x5.toNat (S48.mk (decide ((Int.tmod x1 3) = 0)) ((rd_T48 h0 x5).f1) ((rd_T48 h0 x5).f2))) x5).f2))) x5).f1) t1.2))) else none else none else none else none else none else none else some (laws_markBlockS.e (x1, h0)) := by kernel_rfl
set_option maxRecDepth 100000 in
theorem laws_markBlockS.te (rec : List Item → St Ty D → R) (k : Nat) (a1 : Int) (a0 : List S48) : laws_markBlockS.g rec k [.code (body Tryz.f40)] (startSt [.sl 0 none, .sc (.int .i64 a1)] [.rowb .t48 a0 0]) =
  rec (td Tryz.f40 2) (laws_markBlockS.s2 a1 0 a0) := by kernel_rfl
set_option maxRecDepth 100000 in
theorem laws_markBlockS.ok : ∀ k : Nat, (∀ (x1 : Int) (x5 : Int) (h0 : List S48), goF Tryz.f40 laws_markBlockS.ctx laws_markBlockS.sp 1 laws_markBlockS.en k (td Tryz.f40 2) (laws_markBlockS.s2 x1 x5 h0) = (laws_markBlockS.c2 k x1 x5 h0).map laws_markBlockS.e)
  | 0 => fun _ _ _ => rfl
  | k + 1 => by
    have ih := laws_markBlockS.ok k
    have i2 := ih
    intro x1 x5 h0; rw [laws_markBlockS.c2]; exact (laws_markBlockS.t2 _ k x1 x5 h0).trans (cd (cd (cd (cd (cd (cd (cd (bn (fun t1 => (i2 _ _ _))) rfl) rfl) rfl) rfl) rfl) rfl) rfl)
set_option maxRecDepth 100000 in
theorem laws_markBlockS.oke (k : Nat) (a1 : Int) (a0 : List S48) : goF Tryz.f40 laws_markBlockS.ctx laws_markBlockS.sp 1 laws_markBlockS.en (k + 1) [.code (body Tryz.f40)] (startSt [.sl 0 none, .sc (.int .i64 a1)] [.rowb .t48 a0 0]) = (laws_markBlockS.f k a1 a0).map laws_markBlockS.e := by
  have i2 := laws_markBlockS.ok k
  rw [laws_markBlockS.f]; exact (laws_markBlockS.te _ k a1 a0).trans (i2 _ _ _)
theorem laws_markBlockS.con (k : Nat) (a1 : Int) (a0 : List S48) (r) (h : laws_markBlockS.f k a1 a0 = some r) : Contract Tryz.prog kit 40 [.sl 0 none, .sc (.int .i64 a1)] [.rowb .t48 a0 0] (laws_markBlockS.e r).1 (laws_markBlockS.e r).2.1 (laws_markBlockS.e r).2.2 :=
  con_okG kitOk mix (fun k => (CtxOk.cons (laws_markLeafS.xok k) CtxOk.nil)) (laws_markBlockS.oke k a1 a0) h (by kernel_rfl) (by kernel_rfl) (by kernel_rfl) rfl (by kernel_rfl) rfl rfl
noncomputable def laws_markBlockS.x (k : Nat) : X := fun ins bs κ => match ins, bs with
  | [.sl 0 none, .sc (.int .i64 a1)], [.rowb .t48 a0 0] => (laws_markBlockS.f k a1 a0).bind fun r => κ (laws_markBlockS.e r).1 (laws_markBlockS.e r).2.1 (laws_markBlockS.e r).2.2
  | _, _ => none
theorem laws_markBlockS.xok (k : Nat) : XOk 40 (laws_markBlockS.x k) := by
  intro ins bs κ res h
  unfold laws_markBlockS.x at h
  split at h
  · obtain ⟨r, hr, h⟩ := Option.bind_eq_some_iff.1 h
    exact ⟨_, _, _, laws_markBlockS.con k _ _ r hr, h⟩
  · cases h

/-! ### laws_markFlash: function 15 -/
noncomputable def laws_markFlash.sp : Nat → Option (Spec Ty) := fun r => none
noncomputable def laws_markFlash.en : Option (Spec Ty) := none
noncomputable def laws_markFlash.ctx (k : Nat) : Ctx Ty D := (cons 40 (laws_markBlockS.x k) (fun _ _ _ _ => none))
noncomputable def laws_markFlash.f (k : Nat) (a1 : Int) (a0_0 : List S48) : Option (Int × (List S48)) := ((laws_markBlockS.f k a1 a0_0).bind fun t1 => (some (t1.1, t1.2)))
noncomputable def laws_markFlash.e (r : Int × (List S48)) : Res Ty D := (.sc (.int .i64 r.1), [some (.rowb .t48 r.2 1)], [])
noncomputable abbrev laws_markFlash.g (rec : List Item → St Ty D → R) (k : Nat) := go1 Tryz.f15 (laws_markFlash.ctx k) laws_markFlash.sp 1 laws_markFlash.en rec
set_option maxRecDepth 100000 in
theorem laws_markFlash.te (rec : List Item → St Ty D → R) (k : Nat) (a1 : Int) (a0_0 : List S48) : laws_markFlash.g rec k [.code (body Tryz.f15)] (startSt [.ag [.sl 0 none], .sc (.int .i64 a1)] [.rowb .t48 a0_0 0]) =
  (laws_markBlockS.f k a1 a0_0).bind fun t1 => some (laws_markFlash.e (t1.1, t1.2)) := by kernel_rfl
set_option maxRecDepth 100000 in
theorem laws_markFlash.oke (k : Nat) (a1 : Int) (a0_0 : List S48) : goF Tryz.f15 laws_markFlash.ctx laws_markFlash.sp 1 laws_markFlash.en (k + 1) [.code (body Tryz.f15)] (startSt [.ag [.sl 0 none], .sc (.int .i64 a1)] [.rowb .t48 a0_0 0]) = (laws_markFlash.f k a1 a0_0).map laws_markFlash.e := by
  rw [laws_markFlash.f]; exact (laws_markFlash.te _ k a1 a0_0).trans (bn (fun t1 => rfl))
theorem laws_markFlash.con (k : Nat) (a1 : Int) (a0_0 : List S48) (r) (h : laws_markFlash.f k a1 a0_0 = some r) : Contract Tryz.prog kit 15 [.ag [.sl 0 none], .sc (.int .i64 a1)] [.rowb .t48 a0_0 0] (laws_markFlash.e r).1 (laws_markFlash.e r).2.1 (laws_markFlash.e r).2.2 :=
  con_okG kitOk mix (fun k => (CtxOk.cons (laws_markBlockS.xok k) CtxOk.nil)) (laws_markFlash.oke k a1 a0_0) h (by kernel_rfl) (by kernel_rfl) (by kernel_rfl) rfl (by kernel_rfl) rfl rfl
noncomputable def laws_markFlash.x (k : Nat) : X := fun ins bs κ => match ins, bs with
  | [.ag [.sl 0 none], .sc (.int .i64 a1)], [.rowb .t48 a0_0 0] => (laws_markFlash.f k a1 a0_0).bind fun r => κ (laws_markFlash.e r).1 (laws_markFlash.e r).2.1 (laws_markFlash.e r).2.2
  | _, _ => none
theorem laws_markFlash.xok (k : Nat) : XOk 15 (laws_markFlash.x k) := by
  intro ins bs κ res h
  unfold laws_markFlash.x at h
  split at h
  · obtain ⟨r, hr, h⟩ := Option.bind_eq_some_iff.1 h
    exact ⟨_, _, _, laws_markFlash.con k _ _ r hr, h⟩
  · cases h

/-! ### laws_markVolS: function 41 -/
noncomputable def laws_markVolS.sp : Nat → Option (Spec Ty) := fun r => bif Nat.beq r 2 then some ⟨[(0, .own .t96), (1, .keep), (5, .keep)], [(0, none)]⟩ else none
noncomputable def laws_markVolS.en : Option (Spec Ty) := none
noncomputable def laws_markVolS.s2 (x1 : Int) (x5 : Int) (h0 : List S96) : St Ty D := ⟨(Env.put (Env.put (Env.put E (some 0) (.sl 0 none)) (some 1) (.sc (.int .i64 x1))) (some 5) (.sc (.int .i64 x5))), Heap.put H0 [(0, some (.rowb .t96 h0 0))], 1000⟩
noncomputable def laws_markVolS.ctx (k : Nat) : Ctx Ty D := (fun _ _ _ _ => none)
noncomputable def laws_markVolS.c2 : Nat → Int → Int → (List S96) → Option (Int × (List S96))
  | 0, _, _, _ => none
  | k + 1, x1, x5, h0 => (if x5 < (h0.length : Int) then (if 0 ≤ x5 then (if x5 < (h0.length : Int) then (if 0 ≤ x5 then (if x5 < ((h0.set x5.toNat (S96.mk x1 ((rd_T96 h0 x5).f1))).length : Int) then (laws_markVolS.c2 k (w64 ((w64 (x1 + 1)) + 1)) (w64 (x5 + 1)) ((h0.set x5.toNat (S96.mk x1 ((rd_T96 h0 x5).f1))).set x5.toNat (S96.mk ((rd_T96 (h0.set x5.toNat (S96.mk x1 ((rd_T96 h0 x5).f1))) x5).f0) (w64 (x1 + 1))))) else none) else none) else none) else none) else (some (x1, h0)))
noncomputable def laws_markVolS.f (k : Nat) (a1 : Int) (a0 : List S96) : Option (Int × (List S96)) := (laws_markVolS.c2 k a1 0 a0)
noncomputable def laws_markVolS.e (r : Int × (List S96)) : Res Ty D := (.sc (.int .i64 r.1), [some (.rowb .t96 r.2 0)], [])
noncomputable abbrev laws_markVolS.g (rec : List Item → St Ty D → R) (k : Nat) := go1 Tryz.f41 (laws_markVolS.ctx k) laws_markVolS.sp 1 laws_markVolS.en rec
set_option maxRecDepth 100000 in
theorem laws_markVolS.t2 (rec : List Item → St Ty D → R) (k : Nat) (x1 : Int) (x5 : Int) (h0 : List S96) : laws_markVolS.g rec k (td Tryz.f41 2) (laws_markVolS.s2 x1 x5 h0) =
  bif decide (x5 < (h0.length : Int)) then bif decide (0 ≤ x5) then bif decide (x5 < (h0.length : Int)) then bif decide (0 ≤ x5) then bif decide (x5 < ((h0.set x5.toNat (S96.mk x1 ((rd_T96 h0 x5).f1))).length : Int)) then rec (td Tryz.f41 2) (laws_markVolS.s2 (w64 ((w64 (x1 + 1)) + 1)) (w64 (x5 + 1)) ((h0.set x5.toNat (S96.mk x1 ((rd_T96 h0 x5).f1))).set x5.toNat (S96.mk ((rd_T96 (h0.set x5.toNat (S96.mk x1 ((rd_T96 h0 x5).f1))) x5).f0) (w64 (x1 + 1))))) else none else none else none else none else some (laws_markVolS.e (x1, h0)) := by kernel_rfl
set_option maxRecDepth 100000 in
theorem laws_markVolS.te (rec : List Item → St Ty D → R) (k : Nat) (a1 : Int) (a0 : List S96) : laws_markVolS.g rec k [.code (body Tryz.f41)] (startSt [.sl 0 none, .sc (.int .i64 a1)] [.rowb .t96 a0 0]) =
  rec (td Tryz.f41 2) (laws_markVolS.s2 a1 0 a0) := by kernel_rfl
set_option maxRecDepth 100000 in
theorem laws_markVolS.ok : ∀ k : Nat, (∀ (x1 : Int) (x5 : Int) (h0 : List S96), goF Tryz.f41 laws_markVolS.ctx laws_markVolS.sp 1 laws_markVolS.en k (td Tryz.f41 2) (laws_markVolS.s2 x1 x5 h0) = (laws_markVolS.c2 k x1 x5 h0).map laws_markVolS.e)
  | 0 => fun _ _ _ => rfl
  | k + 1 => by
    have ih := laws_markVolS.ok k
    have i2 := ih
    intro x1 x5 h0; rw [laws_markVolS.c2]; exact (laws_markVolS.t2 _ k x1 x5 h0).trans (cd (cd (cd (cd (cd (i2 _ _ _) rfl) rfl) rfl) rfl) rfl)
set_option maxRecDepth 100000 in
theorem laws_markVolS.oke (k : Nat) (a1 : Int) (a0 : List S96) : goF Tryz.f41 laws_markVolS.ctx laws_markVolS.sp 1 laws_markVolS.en (k + 1) [.code (body Tryz.f41)] (startSt [.sl 0 none, .sc (.int .i64 a1)] [.rowb .t96 a0 0]) = (laws_markVolS.f k a1 a0).map laws_markVolS.e := by
  have i2 := laws_markVolS.ok k
  rw [laws_markVolS.f]; exact (laws_markVolS.te _ k a1 a0).trans (i2 _ _ _)
theorem laws_markVolS.con (k : Nat) (a1 : Int) (a0 : List S96) (r) (h : laws_markVolS.f k a1 a0 = some r) : Contract Tryz.prog kit 41 [.sl 0 none, .sc (.int .i64 a1)] [.rowb .t96 a0 0] (laws_markVolS.e r).1 (laws_markVolS.e r).2.1 (laws_markVolS.e r).2.2 :=
  con_okG kitOk mix (fun k => CtxOk.nil) (laws_markVolS.oke k a1 a0) h (by kernel_rfl) (by kernel_rfl) (by kernel_rfl) rfl (by kernel_rfl) rfl rfl
noncomputable def laws_markVolS.x (k : Nat) : X := fun ins bs κ => match ins, bs with
  | [.sl 0 none, .sc (.int .i64 a1)], [.rowb .t96 a0 0] => (laws_markVolS.f k a1 a0).bind fun r => κ (laws_markVolS.e r).1 (laws_markVolS.e r).2.1 (laws_markVolS.e r).2.2
  | _, _ => none
theorem laws_markVolS.xok (k : Nat) : XOk 41 (laws_markVolS.x k) := by
  intro ins bs κ res h
  unfold laws_markVolS.x at h
  split at h
  · obtain ⟨r, hr, h⟩ := Option.bind_eq_some_iff.1 h
    exact ⟨_, _, _, laws_markVolS.con k _ _ r hr, h⟩
  · cases h

/-! ### laws_markIntS: function 98 -/
noncomputable def laws_markIntS.sp : Nat → Option (Spec Ty) := fun r => bif Nat.beq r 2 then some ⟨[(0, .own .t3), (1, .keep), (5, .keep)], [(0, none)]⟩ else none
noncomputable def laws_markIntS.en : Option (Spec Ty) := none
noncomputable def laws_markIntS.s2 (x1 : Int) (x5 : Int) (h0 : List Int) : St Ty D := ⟨(Env.put (Env.put (Env.put E (some 0) (.sl 0 none)) (some 1) (.sc (.int .i64 x1))) (some 5) (.sc (.int .i64 x5))), Heap.put H0 [(0, some (.rowb .t3 h0 0))], 1000⟩
noncomputable def laws_markIntS.ctx (k : Nat) : Ctx Ty D := (fun _ _ _ _ => none)
noncomputable def laws_markIntS.c2 : Nat → Int → Int → (List Int) → Option (Int × (List Int))
  | 0, _, _, _ => none
  | k + 1, x1, x5, h0 => (if x5 < (h0.length : Int) then (if 0 ≤ x5 then (if x5 < (h0.length : Int) then (laws_markIntS.c2 k (w64 (x1 + 1)) (w64 (x5 + 1)) (h0.set x5.toNat x1)) else none) else none) else (some (x1, h0)))
noncomputable def laws_markIntS.f (k : Nat) (a1 : Int) (a0 : List Int) : Option (Int × (List Int)) := (laws_markIntS.c2 k a1 0 a0)
noncomputable def laws_markIntS.e (r : Int × (List Int)) : Res Ty D := (.sc (.int .i64 r.1), [some (.rowb .t3 r.2 0)], [])
noncomputable abbrev laws_markIntS.g (rec : List Item → St Ty D → R) (k : Nat) := go1 Tryz.f98 (laws_markIntS.ctx k) laws_markIntS.sp 1 laws_markIntS.en rec
set_option maxRecDepth 100000 in
theorem laws_markIntS.t2 (rec : List Item → St Ty D → R) (k : Nat) (x1 : Int) (x5 : Int) (h0 : List Int) : laws_markIntS.g rec k (td Tryz.f98 2) (laws_markIntS.s2 x1 x5 h0) =
  bif decide (x5 < (h0.length : Int)) then bif decide (0 ≤ x5) then bif decide (x5 < (h0.length : Int)) then rec (td Tryz.f98 2) (laws_markIntS.s2 (w64 (x1 + 1)) (w64 (x5 + 1)) (h0.set x5.toNat x1)) else none else none else some (laws_markIntS.e (x1, h0)) := by kernel_rfl
set_option maxRecDepth 100000 in
theorem laws_markIntS.te (rec : List Item → St Ty D → R) (k : Nat) (a1 : Int) (a0 : List Int) : laws_markIntS.g rec k [.code (body Tryz.f98)] (startSt [.sl 0 none, .sc (.int .i64 a1)] [.rowb .t3 a0 0]) =
  rec (td Tryz.f98 2) (laws_markIntS.s2 a1 0 a0) := by kernel_rfl
set_option maxRecDepth 100000 in
theorem laws_markIntS.ok : ∀ k : Nat, (∀ (x1 : Int) (x5 : Int) (h0 : List Int), goF Tryz.f98 laws_markIntS.ctx laws_markIntS.sp 1 laws_markIntS.en k (td Tryz.f98 2) (laws_markIntS.s2 x1 x5 h0) = (laws_markIntS.c2 k x1 x5 h0).map laws_markIntS.e)
  | 0 => fun _ _ _ => rfl
  | k + 1 => by
    have ih := laws_markIntS.ok k
    have i2 := ih
    intro x1 x5 h0; rw [laws_markIntS.c2]; exact (laws_markIntS.t2 _ k x1 x5 h0).trans (cd (cd (cd (i2 _ _ _) rfl) rfl) rfl)
set_option maxRecDepth 100000 in
theorem laws_markIntS.oke (k : Nat) (a1 : Int) (a0 : List Int) : goF Tryz.f98 laws_markIntS.ctx laws_markIntS.sp 1 laws_markIntS.en (k + 1) [.code (body Tryz.f98)] (startSt [.sl 0 none, .sc (.int .i64 a1)] [.rowb .t3 a0 0]) = (laws_markIntS.f k a1 a0).map laws_markIntS.e := by
  have i2 := laws_markIntS.ok k
  rw [laws_markIntS.f]; exact (laws_markIntS.te _ k a1 a0).trans (i2 _ _ _)
theorem laws_markIntS.con (k : Nat) (a1 : Int) (a0 : List Int) (r) (h : laws_markIntS.f k a1 a0 = some r) : Contract Tryz.prog kit 98 [.sl 0 none, .sc (.int .i64 a1)] [.rowb .t3 a0 0] (laws_markIntS.e r).1 (laws_markIntS.e r).2.1 (laws_markIntS.e r).2.2 :=
  con_okG kitOk mix (fun k => CtxOk.nil) (laws_markIntS.oke k a1 a0) h (by kernel_rfl) (by kernel_rfl) (by kernel_rfl) rfl (by kernel_rfl) rfl rfl
noncomputable def laws_markIntS.x (k : Nat) : X := fun ins bs κ => match ins, bs with
  | [.sl 0 none, .sc (.int .i64 a1)], [.rowb .t3 a0 0] => (laws_markIntS.f k a1 a0).bind fun r => κ (laws_markIntS.e r).1 (laws_markIntS.e r).2.1 (laws_markIntS.e r).2.2
  | _, _ => none
theorem laws_markIntS.xok (k : Nat) : XOk 98 (laws_markIntS.x k) := by
  intro ins bs κ res h
  unfold laws_markIntS.x at h
  split at h
  · obtain ⟨r, hr, h⟩ := Option.bind_eq_some_iff.1 h
    exact ⟨_, _, _, laws_markIntS.con k _ _ r hr, h⟩
  · cases h

/-! ### laws_markKnotS: function 66 -/
noncomputable def laws_markKnotS.sp : Nat → Option (Spec Ty) := fun r => bif Nat.beq r 2 then some ⟨[(0, .own .t132), (1, .keep), (5, .keep)], [(0, none)]⟩ else none
noncomputable def laws_markKnotS.en : Option (Spec Ty) := none
noncomputable def laws_markKnotS.s2 (x1 : Int) (x5 : Int) (h0 : List S132) : St Ty D := ⟨(Env.put (Env.put (Env.put E (some 0) (.sl 0 none)) (some 1) (.sc (.int .i64 x1))) (some 5) (.sc (.int .i64 x5))), Heap.put H0 [(0, some (.rowb .t132 h0 0))], 1000⟩
noncomputable def laws_markKnotS.ctx (k : Nat) : Ctx Ty D := (cons 98 (laws_markIntS.x k) (fun _ _ _ _ => none))
noncomputable def laws_markKnotS.c2 : Nat → Int → Int → (List S132) → Option (Int × (List S132))
  | 0, _, _, _ => none
  | k + 1, x1, x5, h0 => (if x5 < (h0.length : Int) then (if 0 ≤ x5 then (if x5 < (h0.length : Int) then (if 0 ≤ x5 then (if x5 < ((h0.set x5.toNat (S132.mk (decide ((Int.tmod x1 3) = 0)) ((rd_T132 h0 x5).f1))).length : Int) then ((laws_markIntS.f k (w64 (x1 + 1)) ((rd_T132 (h0.set x5.toNat (S132.mk (decide ((Int.tmod x1 3) = 0)) ((rd_T132 h0 x5).f1))) x5).f1)).bind fun t1 => (laws_markKnotS.c2 k t1.1 (w64 (x5 + 1)) ((h0.set x5.toNat (S132.mk (decide ((Int.tmod x1 3) = 0)) ((rd_T132 h0 x5).f1))).set x5.toNat (S132.mk ((rd_T132 (h0.set x5.toNat (S132.mk (decide ((Int.tmod x1 3) = 0)) ((rd_T132 h0 x5).f1))) x5).f0) t1.2)))) else none) else none) else none) else none) else (some (x1, h0)))
noncomputable def laws_markKnotS.f (k : Nat) (a1 : Int) (a0 : List S132) : Option (Int × (List S132)) := (laws_markKnotS.c2 k a1 0 a0)
noncomputable def laws_markKnotS.e (r : Int × (List S132)) : Res Ty D := (.sc (.int .i64 r.1), [some (.rowb .t132 r.2 0)], [])
noncomputable abbrev laws_markKnotS.g (rec : List Item → St Ty D → R) (k : Nat) := go1 Tryz.f66 (laws_markKnotS.ctx k) laws_markKnotS.sp 1 laws_markKnotS.en rec
set_option maxRecDepth 100000 in
theorem laws_markKnotS.t2 (rec : List Item → St Ty D → R) (k : Nat) (x1 : Int) (x5 : Int) (h0 : List S132) : laws_markKnotS.g rec k (td Tryz.f66 2) (laws_markKnotS.s2 x1 x5 h0) =
  bif decide (x5 < (h0.length : Int)) then bif decide (0 ≤ x5) then bif decide (x5 < (h0.length : Int)) then bif decide (0 ≤ x5) then bif decide (x5 < ((h0.set x5.toNat (S132.mk (decide ((Int.tmod x1 3) = 0)) ((rd_T132 h0 x5).f1))).length : Int)) then (laws_markIntS.f k (w64 (x1 + 1)) ((rd_T132 (h0.set x5.toNat (S132.mk (decide ((Int.tmod x1 3) = 0)) ((rd_T132 h0 x5).f1))) x5).f1)).bind fun t1 => rec (td Tryz.f66 2) (laws_markKnotS.s2 t1.1 (w64 (x5 + 1)) ((h0.set x5.toNat (S132.mk (decide ((Int.tmod x1 3) = 0)) ((rd_T132 h0 x5).f1))).set x5.toNat (S132.mk ((rd_T132 (h0.set x5.toNat (S132.mk (decide ((Int.tmod x1 3) = 0)) ((rd_T132 h0 x5).f1))) x5).f0) t1.2))) else none else none else none else none else some (laws_markKnotS.e (x1, h0)) := by kernel_rfl
set_option maxRecDepth 100000 in
theorem laws_markKnotS.te (rec : List Item → St Ty D → R) (k : Nat) (a1 : Int) (a0 : List S132) : laws_markKnotS.g rec k [.code (body Tryz.f66)] (startSt [.sl 0 none, .sc (.int .i64 a1)] [.rowb .t132 a0 0]) =
  rec (td Tryz.f66 2) (laws_markKnotS.s2 a1 0 a0) := by kernel_rfl
set_option maxRecDepth 100000 in
theorem laws_markKnotS.ok : ∀ k : Nat, (∀ (x1 : Int) (x5 : Int) (h0 : List S132), goF Tryz.f66 laws_markKnotS.ctx laws_markKnotS.sp 1 laws_markKnotS.en k (td Tryz.f66 2) (laws_markKnotS.s2 x1 x5 h0) = (laws_markKnotS.c2 k x1 x5 h0).map laws_markKnotS.e)
  | 0 => fun _ _ _ => rfl
  | k + 1 => by
    have ih := laws_markKnotS.ok k
    have i2 := ih
    intro x1 x5 h0; rw [laws_markKnotS.c2]; exact (laws_markKnotS.t2 _ k x1 x5 h0).trans (cd (cd (cd (cd (cd (bn (fun t1 => (i2 _ _ _))) rfl) rfl) rfl) rfl) rfl)
set_option maxRecDepth 100000 in
theorem laws_markKnotS.oke (k : Nat) (a1 : Int) (a0 : List S132) : goF Tryz.f66 laws_markKnotS.ctx laws_markKnotS.sp 1 laws_markKnotS.en (k + 1) [.code (body Tryz.f66)] (startSt [.sl 0 none, .sc (.int .i64 a1)] [.rowb .t132 a0 0]) = (laws_markKnotS.f k a1 a0).map laws_markKnotS.e := by
  have i2 := laws_markKnotS.ok k
  rw [laws_markKnotS.f]; exact (laws_markKnotS.te _ k a1 a0).trans (i2 _ _ _)
theorem laws_markKnotS.con (k : Nat) (a1 : Int) (a0 : List S132) (r) (h : laws_markKnotS.f k a1 a0 = some r) : Contract Tryz.prog kit 66 [.sl 0 none, .sc (.int .i64 a1)] [.rowb .t132 a0 0] (laws_markKnotS.e r).1 (laws_markKnotS.e r).2.1 (laws_markKnotS.e r).2.2 :=
  con_okG kitOk mix (fun k => (CtxOk.cons (laws_markIntS.xok k) CtxOk.nil)) (laws_markKnotS.oke k a1 a0) h (by kernel_rfl) (by kernel_rfl) (by kernel_rfl) rfl (by kernel_rfl) rfl rfl
noncomputable def laws_markKnotS.x (k : Nat) : X := fun ins bs κ => match ins, bs with
  | [.sl 0 none, .sc (.int .i64 a1)], [.rowb .t132 a0 0] => (laws_markKnotS.f k a1 a0).bind fun r => κ (laws_markKnotS.e r).1 (laws_markKnotS.e r).2.1 (laws_markKnotS.e r).2.2
  | _, _ => none
theorem laws_markKnotS.xok (k : Nat) : XOk 66 (laws_markKnotS.x k) := by
  intro ins bs κ res h
  unfold laws_markKnotS.x at h
  split at h
  · obtain ⟨r, hr, h⟩ := Option.bind_eq_some_iff.1 h
    exact ⟨_, _, _, laws_markKnotS.con k _ _ r hr, h⟩
  · cases h
end Go.Proofs.YtmboeckendhdnaaGreat.M2
