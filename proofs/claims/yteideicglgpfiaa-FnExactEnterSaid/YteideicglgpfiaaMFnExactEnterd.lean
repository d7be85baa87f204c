/- FnExactEnter: functions of the translation as Lean functions with what their calls come to, plain lemmas on them, and, at the end, the row. Parts of one proof, merged by a program of this session; each part's own sentence stands at its head. -/
import Derived.IntWalk
import Derived.KernelRfl
import Derived.Test.YteideicglgpfiaaMFnExactEnterc
/- Plain runs of functions: each is a plain Lean function, and keeps its contract. Written by a program of this session. -/
namespace Go.Proofs.Yteideicglgpfiaa.M2
open Go Go.Proofs.Yteideicglgpfiaa.PK
set_option linter.unusedVariables false
set_option linter.unusedSimpArgs false
set_option maxHeartbeats 4000000
/-! ### impl_SweepArena: function 87 -/
noncomputable def impl_SweepArena.sp : Nat → Option (Spec Ty) := fun r => bif Nat.beq r 4 then some ⟨[(1, .keep), (2, .box [.keep]), (4, .box [.own .t88]), (6, .own .t3), (7, .own .t3), (21, .keep), (22, .keep), (23, .keep)], []⟩ else bif Nat.beq r 15 then some ⟨[(1, .keep), (4, .box [.own .t88]), (6, .own .t3), (7, .own .t3), (10, .box [.own .t88]), (11, .own .t3), (55, .keep), (56, .keep), (57, .keep)], []⟩ else bif Nat.beq r 21 then some ⟨[(1, .keep), (4, .box [.own .t88]), (6, .own .t3), (7, .own .t3), (10, .box [.own .t88]), (11, .own .t3), (13, .box [.keep, .keep]), (14, .box [.keep, .own .t3]), (55, .keep), (56, .keep), (57, .keep), (79, .keep), (80, .keep), (81, .keep)], []⟩ else bif Nat.beq r 29 then some ⟨[(4, .box [.own .t88]), (6, .own .t3), (10, .box [.own .t88]), (11, .own .t3), (109, .keep), (110, .keep), (111, .keep)], []⟩ else none
noncomputable def impl_SweepArena.en : Option (Spec Ty) := some ⟨[(4, .box [.own .t88]), (5, .own .t3)], []⟩
noncomputable def impl_SweepArena.s4 (x1 : List Int) (x21 : List Int) (x22 : Int) (x23 : Int) (h64_0 : List S88) (h66 : List S88) (h67 : List Int) (h68 : List Int) : St Ty D := ⟨(Env.put (Env.put (Env.put (Env.put (Env.put (Env.put (Env.put (Env.put E (some 1) (.row 0 .t3 x1)) (some 2) (.pt 64 0 0)) (some 4) (.pt 65 0 0)) (some 6) (.sl 67 none)) (some 7) (.sl 68 none)) (some 21) (.row 0 .t3 x21)) (some 22) (.sc (.int .i64 x22))) (some 23) (.sc (.int .i64 x23))), Heap.put H0 [(64, some (.box [.row 0 .t88 h64_0])), (66, some (.rowb .t88 h66 0)), (65, some (.box [.sl 66 none])), (67, some (.rowb .t3 h67 0)), (68, some (.rowb .t3 h68 0))], 1000⟩
noncomputable def impl_SweepArena.s15 (x1 : List Int) (x55 : List S88) (x56 : Int) (x57 : Int) (h65 : List S88) (h66 : List Int) (h67 : List Int) (h69 : List S88) (h70 : List Int) : St Ty D := ⟨(Env.put (Env.put (Env.put (Env.put (Env.put (Env.put (Env.put (Env.put (Env.put E (some 1) (.row 0 .t3 x1)) (some 4) (.pt 64 0 0)) (some 6) (.sl 66 none)) (some 7) (.sl 67 none)) (some 10) (.pt 68 0 0)) (some 11) (.sl 70 none)) (some 55) (.row 0 .t88 x55)) (some 56) (.sc (.int .i64 x56))) (some 57) (.sc (.int .i64 x57))), Heap.put H0 [(65, some (.rowb .t88 h65 0)), (64, some (.box [.sl 65 none])), (66, some (.rowb .t3 h66 0)), (67, some (.rowb .t3 h67 0)), (69, some (.rowb .t88 h69 0)), (68, some (.box [.sl 69 none])), (70, some (.rowb .t3 h70 0))], 1000⟩
noncomputable def impl_SweepArena.s21 (x1 : List Int) (x55 : List S88) (x56 : Int) (x57 : Int) (x79 : List Int) (x80 : Int) (x81 : Int) (h65 : List S88) (h66 : List Int) (h67 : List Int) (h69 : List S88) (h70 : List Int) (h71_0 : Bool) (h71_1 : List Int) (h73 : List Int) (h72_0 : Bool) : St Ty D := ⟨(Env.put (Env.put (Env.put (Env.put (Env.put (Env.put (Env.put (Env.put (Env.put (Env.put (Env.put (Env.put (Env.put (Env.put E (some 1) (.row 0 .t3 x1)) (some 4) (.pt 64 0 0)) (some 6) (.sl 66 none)) (some 7) (.sl 67 none)) (some 10) (.pt 68 0 0)) (some 11) (.sl 70 none)) (some 13) (.pt 71 0 0)) (some 14) (.pt 72 0 0)) (some 55) (.row 0 .t88 x55)) (some 56) (.sc (.int .i64 x56))) (some 57) (.sc (.int .i64 x57))) (some 79) (.row 0 .t3 x79)) (some 80) (.sc (.int .i64 x80))) (some 81) (.sc (.int .i64 x81))), Heap.put H0 [(65, some (.rowb .t88 h65 0)), (64, some (.box [.sl 65 none])), (66, some (.rowb .t3 h66 0)), (67, some (.rowb .t3 h67 0)), (69, some (.rowb .t88 h69 0)), (68, some (.box [.sl 69 none])), (70, some (.rowb .t3 h70 0)), (71, some (.box [.sc (.bool h71_0), .row 0 .t3 h71_1])), (73, some (.rowb .t3 h73 0)), (72, some (.box [.sc (.bool h72_0), .sl 73 none]))], 1000⟩
noncomputable def impl_SweepArena.s29 (x109 : List Int) (x110 : Int) (x111 : Int) (h65 : List S88) (h66 : List Int) (h68 : List S88) (h69 : List Int) : St Ty D := ⟨(Env.put (Env.put (Env.put (Env.put (Env.put (Env.put (Env.put E (some 4) (.pt 64 0 0)) (some 6) (.sl 66 none)) (some 10) (.pt 67 0 0)) (some 11) (.sl 69 none)) (some 109) (.row 0 .t3 x109)) (some 110) (.sc (.int .i64 x110))) (some 111) (.sc (.int .i64 x111))), Heap.put H0 [(65, some (.rowb .t88 h65 0)), (64, some (.box [.sl 65 none])), (66, some (.rowb .t3 h66 0)), (68, some (.rowb .t88 h68 0)), (67, some (.box [.sl 68 none])), (69, some (.rowb .t3 h69 0))], 1000⟩
noncomputable def impl_SweepArena.ctx (k : Nat) : Ctx Ty D := (cons 67 (impl_ArenaOk.x k) (cons 69 (impl_isRoot.x k) (cons 70 (impl_knotsOf.x k) (cons 71 (impl_hasInt.x k) (cons 84 (impl_copyArena.x k) (cons 99 (impl_copyInts.x k) (fun _ _ _ _ => none)))))))
mutual
noncomputable def impl_SweepArena.c4 : Nat → (List Int) → (List Int) → Int → Int → (List S88) → (List S88) → (List Int) → (List Int) → Option ((List S88) × (List Int))
  | 0, _, _, _, _, _, _, _, _ => none
  | k + 1, x1, x21, x22, x23, h64_0, h66, h67, h68 => (if x23 < x22 then (if 0 ≤ x23 then (if x23 < (x21.length : Int) then (if (rd_T3 x21 x23) = (-1) then ((impl_knotsOf.f k h64_0 (rd_T3 x21 x23)).bind fun t5 => (if h68.length + t5.length ≤ 17592186044416 then (impl_SweepArena.c4 k x1 x21 x22 (w64 (x23 + 1)) h64_0 h66 h67 (h68 ++ t5)) else none)) else ((impl_isRoot.f k h64_0 (rd_T3 x21 x23)).bind fun t2 => (if t2 = true then ((impl_knotsOf.f k h64_0 (rd_T3 x21 x23)).bind fun t4 => (if h68.length + t4.length ≤ 17592186044416 then (impl_SweepArena.c4 k x1 x21 x22 (w64 (x23 + 1)) h64_0 h66 h67 (h68 ++ t4)) else none)) else ((impl_copyArena.f k h64_0).bind fun t3 => (some (t3, h67)))))) else none) else none) else ((impl_ArenaOk.f k h64_0).bind fun t6 => (if t6 = true then (if 0 ≤ (h64_0.length : Int) then (if (h64_0.length : Int).toNat ≤ 35184372088832 then (impl_SweepArena.c15 k x1 h64_0 (h64_0.length : Int) 0 h66 h67 h68 ([] : List S88) (List.replicate ((h64_0.length : Int).toNat) z3)) else none) else none) else ((impl_copyArena.f k h64_0).bind fun t7 => (some (t7, h67))))))
noncomputable def impl_SweepArena.c15 : Nat → (List Int) → (List S88) → Int → Int → (List S88) → (List Int) → (List Int) → (List S88) → (List Int) → Option ((List S88) × (List Int))
  | 0, _, _, _, _, _, _, _, _, _ => none
  | k + 1, x1, x55, x56, x57, h65, h66, h67, h69, h70 => (if x57 < x56 then (if 0 ≤ x57 then (if x57 < (x55.length : Int) then ((impl_hasInt.f k h67 x57).bind fun t8 => (if t8 = true then (if 0 ≤ x57 then (if x57 < (h70.length : Int) then ((impl_copyInts.f k ((rd_T88 x55 x57).f1)).bind fun t9 => (impl_SweepArena.c21 k x1 x55 x56 x57 ((rd_T88 x55 x57).f1) (((rd_T88 x55 x57).f1).length : Int) 0 h65 h66 h67 h69 (h70.set x57.toNat (h69.length : Int)) ((rd_T88 x55 x57).f0) ((rd_T88 x55 x57).f1) t9 ((rd_T88 x55 x57).f0))) else none) else none) else (impl_SweepArena.c15 k x1 x55 x56 (w64 (x57 + 1)) h65 h66 h67 h69 h70))) else none) else none) else (impl_SweepArena.c29 k x1 (x1.length : Int) 0 h65 h66 h69 h70))
noncomputable def impl_SweepArena.c21 : Nat → (List Int) → (List S88) → Int → Int → (List Int) → Int → Int → (List S88) → (List Int) → (List Int) → (List S88) → (List Int) → Bool → (List Int) → (List Int) → Bool → Option ((List S88) × (List Int))
  | 0, _, _, _, _, _, _, _, _, _, _, _, _, _, _, _, _ => none
  | k + 1, x1, x55, x56, x57, x79, x80, x81, h65, h66, h67, h69, h70, h71_0, h71_1, h73, h72_0 => (if x81 < x80 then (if 0 ≤ x81 then (if x81 < (x79.length : Int) then (if h71_0 = true then (impl_SweepArena.c21 k x1 x55 x56 x57 x79 x80 (w64 (x81 + 1)) h65 h66 h67 h69 h70 h71_0 h71_1 h73 h72_0) else (if (rd_T3 x79 x81) ≥ 0 then (if 0 ≤ (rd_T3 x79 x81) then (if (rd_T3 x79 x81) < (h70.length : Int) then (if 0 ≤ x81 then (if x81 < (h73.length : Int) then (impl_SweepArena.c21 k x1 x55 x56 x57 x79 x80 (w64 (x81 + 1)) h65 h66 h67 h69 h70 h71_0 h71_1 (h73.set x81.toNat (rd_T3 h70 (rd_T3 x79 x81))) h72_0) else none) else none) else none) else none) else (impl_SweepArena.c21 k x1 x55 x56 x57 x79 x80 (w64 (x81 + 1)) h65 h66 h67 h69 h70 h71_0 h71_1 h73 h72_0))) else none) else none) else (if h69.length + ([(S88.mk h72_0 h73)] : List S88).length ≤ 4398046511104 then (impl_SweepArena.c15 k x1 x55 x56 (w64 (x57 + 1)) h65 h66 h67 (h69 ++ ([(S88.mk h72_0 h73)] : List S88)) h70) else none))
noncomputable def impl_SweepArena.c29 : Nat → (List Int) → Int → Int → (List S88) → (List Int) → (List S88) → (List Int) → Option ((List S88) × (List Int))
  | 0, _, _, _, _, _, _, _ => none
  | k + 1, x109, x110, x111, h65, h66, h68, h69 => (if x111 < x110 then (if 0 ≤ x111 then (if x111 < (x109.length : Int) then (if (rd_T3 x109 x111) ≥ 0 then (if 0 ≤ (rd_T3 x109 x111) then (if (rd_T3 x109 x111) < (h69.length : Int) then (if 0 ≤ x111 then (if x111 < (h66.length : Int) then (impl_SweepArena.c29 k x109 x110 (w64 (x111 + 1)) h65 (h66.set x111.toNat (rd_T3 h69 (rd_T3 x109 x111))) h68 h69) else none) else none) else none) else none) else (impl_SweepArena.c29 k x109 x110 (w64 (x111 + 1)) h65 h66 h68 h69)) else none) else none) else (some (h68, h66)))
end
noncomputable def impl_SweepArena.f (k : Nat) (a0_0 : List S88) (a1 : List Int) : Option ((List S88) × (List Int)) := ((impl_copyInts.f k a1).bind fun t1 => (impl_SweepArena.c4 k a1 a1 (a1.length : Int) 0 a0_0 ([] : List S88) t1 ([] : List Int)))
noncomputable def impl_SweepArena.e (r : (List S88) × (List Int)) : Res Ty D := (.tu [.ag [.sl 0 none], .sl 1 none], [], [.rowb .t88 r.1 0, .rowb .t3 r.2 0])
noncomputable abbrev impl_SweepArena.g (rec : List Item → St Ty D → R) (k : Nat) := go1 Try.f87 (impl_SweepArena.ctx k) impl_SweepArena.sp 0 impl_SweepArena.en rec
set_option maxRecDepth 100000 in
theorem impl_SweepArena.t4 (rec : List Item → St Ty D → R) (k : Nat) (x1 : List Int) (x21 : List Int) (x22 : Int) (x23 : Int) (h64_0 : List S88) (h66 : List S88) (h67 : List Int) (h68 : List Int) : impl_SweepArena.g rec k (td Try.f87 4) (impl_SweepArena.s4 x1 x21 x22 x23 h64_0 h66 h67 h68) =
  bif decide (x23 < x22) then bif decide (0 ≤ x23) then bif decide (x23 < (x21.length : Int)) then bif !decide ((rd_T3 x21 x23) = (-1)) then (impl_isRoot.f k h64_0 (rd_T3 x21 x23)).bind fun t2 => bif !t2 then (impl_copyArena.f k h64_0).bind fun t3 => some (impl_SweepArena.e (t3, h67)) else (impl_knotsOf.f k h64_0 (rd_T3 x21 x23)).bind fun t4 => bif decide (h68.length + t4.length ≤ 17592186044416) then rec (td Try.f87 4) (impl_SweepArena.s4 x1 x21 x22 (w64 (x23 + 1)) h64_0 h66 h67 (h68 ++ t4)) else none else (impl_knotsOf.f k h64_0 (rd_T3 x21 x23)).bind fun t5 => bif decide (h68.length + t5.length ≤ 17592186044416) then rec (td Try.f87 4) (impl_SweepArena.s4 x1 x21 x22 (w64 (x23 + 1)) h64_0 h66 h67 (h68 ++ t5)) else none else none else none else (impl_ArenaOk.f k h64_0).bind fun t6 => bif !t6 then (impl_copyArena.f k h64_0).bind fun t7 => some (impl_SweepArena.e (t7, h67)) else bif decide ((h64_0.length : Int) = (h64_0.length : Int)) then bif decide (0 ≤ (h64_0.length : Int)) then bif decide ((h64_0.length : Int).toNat ≤ 35184372088832) then rec (td Try.f87 15) (impl_SweepArena.s15 x1 h64_0 (h64_0.length : Int) 0 h66 h67 h68 ([] : List S88) (List.replicate ((h64_0.length : Int).toNat) z3)) else none else none else none := by kernel_rfl
set_option maxRecDepth 100000 in
theorem impl_SweepArena.t15 (rec : List Item → St Ty D → R) (k : Nat) (x1 : List Int) (x55 : List S88) (x56 : Int) (x57 : Int) (h65 : List S88) (h66 : List Int) (h67 : List Int) (h69 : List S88) (h70 : List Int) : impl_SweepArena.g rec k (td Try.f87 15) (impl_SweepArena.s15 x1 x55 x56 x57 h65 h66 h67 h69 h70) =
  bif decide (x57 < x56) then bif decide (0 ≤ x57) then bif decide (x57 < (x55.length : Int)) then (impl_hasInt.f k h67 x57).bind fun t8 => bif !t8 then rec (td Try.f87 15) (impl_SweepArena.s15 x1 x55 x56 (w64 (x57 + 1)) h65 h66 h67 h69 h70) else bif decide (0 ≤ x57) then bif decide (x57 < (h70.length : Int)) then (impl_copyInts.f k ((rd_T88 x55 x57).f1)).bind fun t9 => rec (td Try.f87 21) (impl_SweepArena.s21 x1 x55 x56 x57 ((rd_T88 x55 x57).f1) (((rd_T88 x55 x57).f1).length : Int) 0 h65 h66 h67 h69 (h70.set x57.toNat (h69.length : Int)) ((rd_T88 x55 x57).f0) ((rd_T88 x55 x57).f1) t9 ((rd_T88 x55 x57).f0)) else none else none else none else none else rec (td Try.f87 29) (impl_SweepArena.s29 x1 (x1.length : Int) 0 h65 h66 h69 h70) := by kernel_rfl
set_option maxRecDepth 100000 in
theorem impl_SweepArena.t21 (rec : List Item → St Ty D → R) (k : Nat) (x1 : List Int) (x55 : List S88) (x56 : Int) (x57 : Int) (x79 : List Int) (x80 : Int) (x81 : Int) (h65 : List S88) (h66 : List Int) (h67 : List Int) (h69 : List S88) (h70 : List Int) (h71_0 : Bool) (h71_1 : List Int) (h73 : List Int) (h72_0 : Bool) : impl_SweepArena.g rec k (td Try.f87 21) (impl_SweepArena.s21 x1 x55 x56 x57 x79 x80 x81 h65 h66 h67 h69 h70 h71_0 h71_1 h73 h72_0) =
  bif decide (x81 < x80) then bif decide (0 ≤ x81) then bif decide (x81 < (x79.length : Int)) then bif !h71_0 then bif decide ((rd_T3 x79 x81) ≥ 0) then bif decide (0 ≤ (rd_T3 x79 x81)) then bif decide ((rd_T3 x79 x81) < (h70.length : Int)) then bif decide (0 ≤ x81) then bif decide (x81 < (h73.length : Int)) then rec (td Try.f87 21) (impl_SweepArena.s21 x1 x55 x56 x57 x79 x80 (w64 (x81 + 1)) h65 h66 h67 h69 h70 h71_0 h71_1 (h73.set x81.toNat (rd_T3 h70 (rd_T3 x79 x81))) h72_0) else none else none else none else none else rec (td Try.f87 21) (impl_SweepArena.s21 x1 x55 x56 x57 x79 x80 (w64 (x81 + 1)) h65 h66 h67 h69 h70 h71_0 h71_1 h73 h72_0) else rec (td Try.f87 21) (impl_SweepArena.s21 x1 x55 x56 x57 x79 x80 (w64 (x81 + 1)) h65 h66 h67 h69 h70 h71_0 h71_1 h73 h72_0) else none else none else bif decide (h69.length + ([(S88.mk h72_0 h73)] : List S88).length ≤ 4398046511104) then rec (td Try.f87 15) (impl_SweepArena.s15 x1 x55 x56 (w64 (x57 + 1)) h65 h66 h67 (h69 ++ ([(S88.mk h72_0 h73)] : List S88)) h70) else none := by kernel_rfl
set_option maxRecDepth 100000 in
theorem impl_SweepArena.t29 (rec : List Item → St Ty D → R) (k : Nat) (x109 : List Int) (x110 : Int) (x111 : Int) (h65 : List S88) (h66 : List Int) (h68 : List S88) (h69 : List Int) : impl_SweepArena.g rec k (td Try.f87 29) (impl_SweepArena.s29 x109 x110 x111 h65 h66 h68 h69) =
  bif decide (x111 < x110) then bif decide (0 ≤ x111) then bif decide (x111 < (x109.length : Int)) then bif decide ((rd_T3 x109 x111) ≥ 0) then bif decide (0 ≤ (rd_T3 x109 x111)) then bif decide ((rd_T3 x109 x111) < (h69.length : Int)) then bif decide (0 ≤ x111) then bif decide (x111 < (h66.length : Int)) then rec (td Try.f87 29) (impl_SweepArena.s29 x109 x110 (w64 (x111 + 1)) h65 (h66.set x111.toNat (rd_T3 h69 (rd_T3 x109 x111))) h68 h69) else none else none else none else none else rec (td Try.f87 29) (impl_SweepArena.s29 x109 x110 (w64 (x111 + 1)) h65 h66 h68 h69) else none else none else some (impl_SweepArena.e (h68, h66)) := by kernel_rfl
set_option maxRecDepth 100000 in
theorem impl_SweepArena.te (rec : List Item → St Ty D → R) (k : Nat) (a0_0 : List S88) (a1 : List Int) : impl_SweepArena.g rec k [.code (body Try.f87)] (startSt [.ag [.row 0 .t88 a0_0], .row 0 .t3 a1] []) =
  (impl_copyInts.f k a1).bind fun t1 => rec (td Try.f87 4) (impl_SweepArena.s4 a1 a1 (a1.length : Int) 0 a0_0 ([] : List S88) t1 ([] : List Int)) := by kernel_rfl
set_option maxRecDepth 100000 in
theorem impl_SweepArena.ok : ∀ k : Nat, (∀ (x1 : List Int) (x21 : List Int) (x22 : Int) (x23 : Int) (h64_0 : List S88) (h66 : List S88) (h67 : List Int) (h68 : List Int), goF Try.f87 impl_SweepArena.ctx impl_SweepArena.sp 0 impl_SweepArena.en k (td Try.f87 4) (impl_SweepArena.s4 x1 x21 x22 x23 h64_0 h66 h67 h68) = (impl_SweepArena.c4 k x1 x21 x22 x23 h64_0 h66 h67 h68).map impl_SweepArena.e) ∧ (∀ (x1 : List Int) (x55 : List S88) (x56 : Int) (x57 : Int) (h65 : List S88) (h66 : List Int) (h67 : List Int) (h69 : List S88) (h70 : List Int), goF Try.f87 impl_SweepArena.ctx impl_SweepArena.sp 0 impl_SweepArena.en k (td Try.f87 15) (impl_SweepArena.s15 x1 x55 x56 x57 h65 h66 h67 h69 h70) = (impl_SweepArena.c15 k x1 x55 x56 x57 h65 h66 h67 h69 h70).map impl_SweepArena.e) ∧ (∀ (x1 : List Int) (x55 : List S88) (x56 : Int) (x57 : Int) (x79 : List Int) (x80 : Int) (x81 : Int) (h65 : List S88) (h66 : List Int) (h67 : List Int) (h69 : List S88) (h70 : List Int) (h71_0 : Bool) (h71_1 : List Int) (h73 : List Int) (h72_0 : Bool), goF Try.f87 impl_SweepArena.ctx impl_SweepArena.sp 0 impl_SweepArena.en k (td Try.f87 21) (impl_SweepArena.s21 x1 x55 x56 x57 x79 x80 x81 h65 h66 h67 h69 h70 h71_0 h71_1 h73 h72_0) = (impl_SweepArena.c21 k x1 x55 x56 x57 x79 x80 x81 h65 h66 h67 h69 h70 h71_0 h71_1 h73 h72_0).map impl_SweepArena.e) ∧ (∀ (x109 : List Int) (x110 : Int) (x111 : Int) (h65 : List S88) (h66 : List Int) (h68 : List S88) (h69 : List Int), goF Try.f87 impl_SweepArena.ctx impl_SweepArena.sp 0 impl_SweepArena.en k (td Try.f87 29) (impl_SweepArena.s29 x109 x110 x111 h65 h66 h68 h69) = (impl_SweepArena.c29 k x109 x110 x111 h65 h66 h68 h69).map impl_SweepArena.e)
  | 0 => ⟨fun _ _ _ _ _ _ _ _ => rfl, fun _ _ _ _ _ _ _ _ _ => rfl, fun _ _ _ _ _ _ _ _ _ _ _ _ _ _ _ _ => rfl, fun _ _ _ _ _ _ _ => rfl⟩
  | k + 1 => by
    have ih := impl_SweepArena.ok k
    obtain ⟨i4, i15, i21, i29⟩ := ih
    refine ⟨?_, ?_, ?_, ?_⟩
    · intro x1 x21 x22 x23 h64_0 h66 h67 h68; rw [impl_SweepArena.c4]; exact (impl_SweepArena.t4 _ k x1 x21 x22 x23 h64_0 h66 h67 h68).trans (cd (cd (cd (nd (bn (fun t2 => (nb (bn (fun t3 => rfl)) (bn (fun t4 => (cd (i4 _ _ _ _ _ _ _ _) rfl)))))) (bn (fun t5 => (cd (i4 _ _ _ _ _ _ _ _) rfl)))) rfl) rfl) (bn (fun t6 => (nb (bn (fun t7 => rfl)) (sf (cd (cd (i15 _ _ _ _ _ _ _ _ _) rfl) rfl))))))
    · intro x1 x55 x56 x57 h65 h66 h67 h69 h70; rw [impl_SweepArena.c15]; exact (impl_SweepArena.t15 _ k x1 x55 x56 x57 h65 h66 h67 h69 h70).trans (cd (cd (cd (bn (fun t8 => (nb (i15 _ _ _ _ _ _ _ _ _) (cd (cd (bn (fun t9 => (i21 _ _ _ _ _ _ _ _ _ _ _ _ _ _ _ _))) rfl) rfl)))) rfl) rfl) (i29 _ _ _ _ _ _ _))
    · intro x1 x55 x56 x57 x79 x80 x81 h65 h66 h67 h69 h70 h71_0 h71_1 h73 h72_0; rw [impl_SweepArena.c21]; exact (impl_SweepArena.t21 _ k x1 x55 x56 x57 x79 x80 x81 h65 h66 h67 h69 h70 h71_0 h71_1 h73 h72_0).trans (cd (cd (cd (nb (cd (cd (cd (cd (cd (i21 _ _ _ _ _ _ _ _ _ _ _ _ _ _ _ _) rfl) rfl) rfl) rfl) (i21 _ _ _ _ _ _ _ _ _ _ _ _ _ _ _ _)) (i21 _ _ _ _ _ _ _ _ _ _ _ _ _ _ _ _)) rfl) rfl) (cd (i15 _ _ _ _ _ _ _ _ _) rfl))
    · intro x109 x110 x111 h65 h66 h68 h69; rw [impl_SweepArena.c29]; exact (impl_SweepArena.t29 _ k x109 x110 x111 h65 h66 h68 h69).trans (cd (cd (cd (cd (cd (cd (cd (cd (i29 _ _ _ _ _ _ _) rfl) rfl) rfl) rfl) (i29 _ _ _ _ _ _ _)) rfl) rfl) rfl)
set_option maxRecDepth 100000 in
theorem impl_SweepArena.oke (k : Nat) (a0_0 : List S88) (a1 : List Int) : goF Try.f87 impl_SweepArena.ctx impl_SweepArena.sp 0 impl_SweepArena.en (k + 1) [.code (body Try.f87)] (startSt [.ag [.row 0 .t88 a0_0], .row 0 .t3 a1] []) = (impl_SweepArena.f k a0_0 a1).map impl_SweepArena.e := by
  obtain ⟨i4, i15, i21, i29⟩ := impl_SweepArena.ok k
  rw [impl_SweepArena.f]; exact (impl_SweepArena.te _ k a0_0 a1).trans (bn (fun t1 => (i4 _ _ _ _ _ _ _ _)))
theorem impl_SweepArena.con (k : Nat) (a0_0 : List S88) (a1 : List Int) (r) (h : impl_SweepArena.f k a0_0 a1 = some r) : Contract Try.prog kit 87 [.ag [.row 0 .t88 a0_0], .row 0 .t3 a1] [] (impl_SweepArena.e r).1 (impl_SweepArena.e r).2.1 (impl_SweepArena.e r).2.2 :=
  con_okG kitOk mix (fun k => (CtxOk.cons (impl_ArenaOk.xok k) (CtxOk.cons (impl_isRoot.xok k) (CtxOk.cons (impl_knotsOf.xok k) (CtxOk.cons (impl_hasInt.xok k) (CtxOk.cons (impl_copyArena.xok k) (CtxOk.cons (impl_copyInts.xok k) CtxOk.nil))))))) (impl_SweepArena.oke k a0_0 a1) h (by kernel_rfl) (by kernel_rfl) (by kernel_rfl) rfl (by kernel_rfl) rfl rfl
noncomputable def impl_SweepArena.x (k : Nat) : X := fun ins bs κ => match ins, bs with
  | [.ag [.row 0 .t88 a0_0], .row 0 .t3 a1], [] => (impl_SweepArena.f k a0_0 a1).bind fun r => κ (impl_SweepArena.e r).1 (impl_SweepArena.e r).2.1 (impl_SweepArena.e r).2.2
  | _, _ => none
theorem impl_SweepArena.xok (k : Nat) : XOk 87 (impl_SweepArena.x k) := by
  intro ins bs κ res h
  unfold impl_SweepArena.x at h
  split at h
  · obtain ⟨r, hr, h⟩ := Option.bind_eq_some_iff.1 h
    exact ⟨_, _, _, impl_SweepArena.con k _ _ r hr, h⟩
  · cases h

/-! ### impl_Store_sweep: function 48 -/
noncomputable def impl_Store_sweep.sp : Nat → Option (Spec Ty) := fun r => bif Nat.beq r 2 then some ⟨[(0, .box [.own .t53, .own .t88, .keep]), (2, .own .t3), (11, .own .t53), (12, .keep), (13, .keep)], [(2, none), (1, none), (0, some [.own .t53, .own .t88, .keep])]⟩ else bif Nat.beq r 9 then some ⟨[(0, .box [.own .t53, .own .t88, .keep]), (6, .own .t3), (40, .keep), (41, .keep)], [(2, none), (1, none), (0, some [.own .t53, .own .t88, .keep])]⟩ else none
noncomputable def impl_Store_sweep.en : Option (Spec Ty) := none
noncomputable def impl_Store_sweep.s2 (x12 : Int) (x13 : Int) (h2 : List S88) (h1 : List S53) (h0_2 : Int) (h64 : List Int) : St Ty D := ⟨(Env.put (Env.put (Env.put (Env.put (Env.put E (some 0) (.pt 0 0 0)) (some 2) (.sl 64 none)) (some 11) (.sl 1 none)) (some 12) (.sc (.int .i64 x12))) (some 13) (.sc (.int .i64 x13))), Heap.put H0 [(2, some (.rowb .t88 h2 0)), (1, some (.rowb .t53 h1 0)), (0, some (.box [.sl 1 none, .sl 2 none, .sc (.int .i64 h0_2)])), (64, some (.rowb .t3 h64 0))], 1000⟩
noncomputable def impl_Store_sweep.s9 (x40 : Int) (x41 : Int) (h2 : List S88) (h1 : List S53) (h64 : List S88) (h0_2 : Int) (h65 : List Int) : St Ty D := ⟨(Env.put (Env.put (Env.put (Env.put E (some 0) (.pt 0 0 0)) (some 6) (.sl 65 none)) (some 40) (.sc (.int .i64 x40))) (some 41) (.sc (.int .i64 x41))), Heap.put H0 [(2, some (.rowb .t88 h2 0)), (1, some (.rowb .t53 h1 0)), (64, some (.rowb .t88 h64 0)), (0, some (.box [.sl 1 none, .sl 64 none, .sc (.int .i64 h0_2)])), (65, some (.rowb .t3 h65 0))], 1000⟩
noncomputable def impl_Store_sweep.ctx (k : Nat) : Ctx Ty D := (cons 87 (impl_SweepArena.x k) (fun _ _ _ _ => none))
mutual
noncomputable def impl_Store_sweep.c2 : Nat → Int → Int → (List S88) → (List S53) → Int → (List Int) → Option ((List S53) × (List S88) × Int × (List S88))
  | 0, _, _, _, _, _, _ => none
  | k + 1, x12, x13, h2, h1, h0_2, h64 => (if x13 < x12 then (if 0 ≤ x13 then (if x13 < (h1.length : Int) then (if h64.length + ([(rd_T53 h1 x13).f1] : List Int).length ≤ 17592186044416 then (impl_Store_sweep.c2 k x12 (w64 (x13 + 1)) h2 h1 h0_2 (h64 ++ ([(rd_T53 h1 x13).f1] : List Int))) else none) else none) else none) else ((impl_SweepArena.f k h2 h64).bind fun t1 => (impl_Store_sweep.c9 k (h1.length : Int) 0 h2 h1 t1.1 h0_2 t1.2)))
noncomputable def impl_Store_sweep.c9 : Nat → Int → Int → (List S88) → (List S53) → (List S88) → Int → (List Int) → Option ((List S53) × (List S88) × Int × (List S88))
  | 0, _, _, _, _, _, _, _ => none
  | k + 1, x40, x41, h2, h1, h64, h0_2, h65 => (if x41 < x40 then (if 0 ≤ x41 then (if x41 < (h65.length : Int) then (if 0 ≤ x41 then (if x41 < (h1.length : Int) then (impl_Store_sweep.c9 k x40 (w64 (x41 + 1)) h2 (h1.set x41.toNat (S53.mk ((rd_T53 h1 x41).f0) (rd_T3 h65 x41))) h64 h0_2 h65) else none) else none) else none) else none) else (some (h1, h64, h0_2, h2)))
end
noncomputable def impl_Store_sweep.f (k : Nat) (a0_2 : Int) (h0_0 : List S53) (h0_1 : List S88) : Option ((List S53) × (List S88) × Int × (List S88)) := (impl_Store_sweep.c2 k (h0_0.length : Int) 0 h0_1 h0_0 a0_2 ([] : List Int))
noncomputable def impl_Store_sweep.e (r : (List S53) × (List S88) × Int × (List S88)) : Res Ty D := (.tu [], [some (.box [.sl 1 none, .sl 3 none, .sc (.int .i64 r.2.2.1)]), some (.rowb .t53 r.1 0), some (.rowb .t88 r.2.2.2 0)], [.rowb .t88 r.2.1 0])
noncomputable abbrev impl_Store_sweep.g (rec : List Item → St Ty D → R) (k : Nat) := go1 Try.f48 (impl_Store_sweep.ctx k) impl_Store_sweep.sp 3 impl_Store_sweep.en rec
set_option maxRecDepth 100000 in
theorem impl_Store_sweep.t2 (rec : List Item → St Ty D → R) (k : Nat) (x12 : Int) (x13 : Int) (h2 : List S88) (h1 : List S53) (h0_2 : Int) (h64 : List Int) : impl_Store_sweep.g rec k (td Try.f48 2) (impl_Store_sweep.s2 x12 x13 h2 h1 h0_2 h64) =
  bif decide (x13 < x12) then bif decide (0 ≤ x13) then bif decide (x13 < (h1.length : Int)) then bif decide (h64.length + ([(rd_T53 h1 x13).f1] : List Int).length ≤ 17592186044416) then rec (td Try.f48 2) (impl_Store_sweep.s2 x12 (w64 (x13 + 1)) h2 h1 h0_2 (h64 ++ ([(rd_T53 h1 x13).f1] : List Int))) else none else none else none else (impl_SweepArena.f k h2 h64).bind fun t1 => rec (td Try.f48 9) (impl_Store_sweep.s9 (h1.length : Int) 0 h2 h1 t1.1 h0_2 t1.2) := by kernel_rfl
set_option maxRecDepth 100000 in
theorem impl_Store_sweep.t9 (rec : List Item → St Ty D → R) (k : Nat) (x40 : Int) (x41 : Int) (h2 : List S88) (h1 : List S53) (h64 : List S88) (h0_2 : Int) (h65 : List Int) : impl_Store_sweep.g rec k (td Try.f48 9) (impl_Store_sweep.s9 x40 x41 h2 h1 h64 h0_2 h65) =
  bif decide (x41 < x40) then bif decide (0 ≤ x41) then bif decide (x41 < (h65.length : Int)) then bif decide (0 ≤ x41) then bif decide (x41 < (h1.length : Int)) then rec (td Try.f48 9) (impl_Store_sweep.s9 x40 (w64 (x41 + 1)) h2 (h1.set x41.toNat (S53.mk ((rd_T53 h1 x41).f0) (rd_T3 h65 x41))) h64 h0_2 h65) else none else none else none else none else some (impl_Store_sweep.e (h1, h64, h0_2, h2)) := by kernel_rfl
set_option maxRecDepth 100000 in
theorem impl_Store_sweep.te (rec : List Item → St Ty D → R) (k : Nat) (a0_2 : Int) (h0_0 : List S53) (h0_1 : List S88) : impl_Store_sweep.g rec k [.code (body Try.f48)] (startSt [.pt 0 0 0] [.box [.sl 1 none, .sl 2 none, .sc (.int .i64 a0_2)], .rowb .t53 h0_0 0, .rowb .t88 h0_1 0]) =
  rec (td Try.f48 2) (impl_Store_sweep.s2 (h0_0.length : Int) 0 h0_1 h0_0 a0_2 ([] : List Int)) := by kernel_rfl
set_option maxRecDepth 100000 in
theorem impl_Store_sweep.ok : ∀ k : Nat, (∀ (x12 : Int) (x13 : Int) (h2 : List S88) (h1 : List S53) (h0_2 : Int) (h64 : List Int), goF Try.f48 impl_Store_sweep.ctx impl_Store_sweep.sp 3 impl_Store_sweep.en k (td Try.f48 2) (impl_Store_sweep.s2 x12 x13 h2 h1 h0_2 h64) = (impl_Store_sweep.c2 k x12 x13 h2 h1 h0_2 h64).map impl_Store_sweep.e) ∧ (∀ (x40 : Int) (x41 : Int) (h2 : List S88) (h1 : List S53) (h64 : List S88) (h0_2 : Int) (h65 : List Int), goF Try.f48 impl_Store_sweep.ctx impl_Store_sweep.sp 3 impl_Store_sweep.en k (td Try.f48 9) (impl_Store_sweep.s9 x40 x41 h2 h1 h64 h0_2 h65) = (impl_Store_sweep.c9 k x40 x41 h2 h1 h64 h0_2 h65).map impl_Store_sweep.e)
  | 0 => ⟨fun _ _ _ _ _ _ => rfl, fun _ _ _ _ _ _ _ => rfl⟩
  | k + 1 => by
    have ih := impl_Store_sweep.ok k
    obtain ⟨i2, i9⟩ := ih
    refine ⟨?_, ?_⟩
    · intro x12 x13 h2 h1 h0_2 h64; rw [impl_Store_sweep.c2]; exact (impl_Store_sweep.t2 _ k x12 x13 h2 h1 h0_2 h64).trans (cd (cd (cd (cd (i2 _ _ _ _ _ _) rfl) rfl) rfl) (bn (fun t1 => (i9 _ _ _ _ _ _ _))))
    · intro x40 x41 h2 h1 h64 h0_2 h65; rw [impl_Store_sweep.c9]; exact (impl_Store_sweep.t9 _ k x40 x41 h2 h1 h64 h0_2 h65).trans (cd (cd (cd (cd (cd (i9 _ _ _ _ _ _ _) rfl) rfl) rfl) rfl) rfl)
set_option maxRecDepth 100000 in
theorem impl_Store_sweep.oke (k : Nat) (a0_2 : Int) (h0_0 : List S53) (h0_1 : List S88) : goF Try.f48 impl_Store_sweep.ctx impl_Store_sweep.sp 3 impl_Store_sweep.en (k + 1) [.code (body Try.f48)] (startSt [.pt 0 0 0] [.box [.sl 1 none, .sl 2 none, .sc (.int .i64 a0_2)], .rowb .t53 h0_0 0, .rowb .t88 h0_1 0]) = (impl_Store_sweep.f k a0_2 h0_0 h0_1).map impl_Store_sweep.e := by
  obtain ⟨i2, i9⟩ := impl_Store_sweep.ok k
  rw [impl_Store_sweep.f]; exact (impl_Store_sweep.te _ k a0_2 h0_0 h0_1).trans (i2 _ _ _ _ _ _)
theorem impl_Store_sweep.con (k : Nat) (a0_2 : Int) (h0_0 : List S53) (h0_1 : List S88) (r) (h : impl_Store_sweep.f k a0_2 h0_0 h0_1 = some r) : Contract Try.prog kit 48 [.pt 0 0 0] [.box [.sl 1 none, .sl 2 none, .sc (.int .i64 a0_2)], .rowb .t53 h0_0 0, .rowb .t88 h0_1 0] (impl_Store_sweep.e r).1 (impl_Store_sweep.e r).2.1 (impl_Store_sweep.e r).2.2 :=
  con_okG kitOk mix (fun k => (CtxOk.cons (impl_SweepArena.xok k) CtxOk.nil)) (impl_Store_sweep.oke k a0_2 h0_0 h0_1) h (by kernel_rfl) (by kernel_rfl) (by kernel_rfl) rfl (by kernel_rfl) rfl rfl
noncomputable def impl_Store_sweep.x (k : Nat) : X := fun ins bs κ => match ins, bs with
  | [.pt 0 0 0], [.box [.sl 1 none, .sl 2 none, .sc (.int .i64 a0_2)], .rowb .t53 h0_0 0, .rowb .t88 h0_1 0] => (impl_Store_sweep.f k a0_2 h0_0 h0_1).bind fun r => κ (impl_Store_sweep.e r).1 (impl_Store_sweep.e r).2.1 (impl_Store_sweep.e r).2.2
  | _, _ => none
theorem impl_Store_sweep.xok (k : Nat) : XOk 48 (impl_Store_sweep.x k) := by
  intro ins bs κ res h
  unfold impl_Store_sweep.x at h
  split at h
  · obtain ⟨r, hr, h⟩ := Option.bind_eq_some_iff.1 h
    exact ⟨_, _, _, impl_Store_sweep.con k _ _ _ r hr, h⟩
  · cases h

/-! ### impl_Enter: function 13 -/
noncomputable def impl_Enter.sp : Nat → Option (Spec Ty) := fun r => none
noncomputable def impl_Enter.en : Option (Spec Ty) := some ⟨[(4, .box [.own .t53, .own .t88, .keep]), (5, .keep)], []⟩
noncomputable def impl_Enter.ctx (k : Nat) : Ctx Ty D := (cons 26 (impl_StoreOk.x k) (cons 45 (impl_copyStore.x k) (cons 46 (impl_RecOk.x k) (cons 47 (impl_Store_enter.x k) (cons 48 (impl_Store_sweep.x k) (fun _ _ _ _ => none))))))
noncomputable def impl_Enter.f (k : Nat) (a0_0 : List S53) (a0_1 : List S88) (a0_2 : Int) (a1_0 : Int) (a1_1 : Int) (a1_2 : Int) (a1_3 : Int) : Option ((List S53) × (List S88) × Int × Bool) := ((impl_copyStore.f k a0_0 a0_1 a0_2).bind fun t1 => ((impl_StoreOk.f k a0_0 a0_1 a0_2).bind fun t2 => (if t2 = true then ((impl_RecOk.f k a1_0 a1_1 a1_2 a1_3).bind fun t4 => (if t4 = true then ((impl_Store_enter.f k a1_0 a1_1 a1_2 a1_3 t1.2.2 t1.1 t1.2.1).bind (Sum.elim (fun t7 => (if t7.1 = true then ((impl_Store_sweep.f k t7.2.2.2.1 t7.2.1 t7.2.2.1).bind fun t9 => (some (t9.1, t9.2.1, t9.2.2.1, true))) else ((impl_copyStore.f k a0_0 a0_1 a0_2).bind fun t8 => (some (t8.1, t8.2.1, t8.2.2, false))))) (Sum.elim (fun t10 => (if t10.1 = true then ((impl_Store_sweep.f k t10.2.2.2 t10.2.1 t10.2.2.1).bind fun t12 => (some (t12.1, t12.2.1, t12.2.2.1, true))) else ((impl_copyStore.f k a0_0 a0_1 a0_2).bind fun t11 => (some (t11.1, t11.2.1, t11.2.2, false))))) (Sum.elim (fun t13 => (if t13.1 = true then ((impl_Store_sweep.f k t13.2.2.2 t13.2.1 t13.2.2.1).bind fun t15 => (some (t15.1, t15.2.1, t15.2.2.1, true))) else ((impl_copyStore.f k a0_0 a0_1 a0_2).bind fun t14 => (some (t14.1, t14.2.1, t14.2.2, false))))) (Sum.elim (fun t16 => (if t16.1 = true then ((impl_Store_sweep.f k t16.2.2.2.1 t16.2.1 t16.2.2.1).bind fun t18 => (some (t18.1, t18.2.1, t18.2.2.1, true))) else ((impl_copyStore.f k a0_0 a0_1 a0_2).bind fun t17 => (some (t17.1, t17.2.1, t17.2.2, false))))) (fun t19 => (if t19.1 = true then ((impl_Store_sweep.f k t19.2.2.2.1 t19.2.1 t19.2.2.1).bind fun t21 => (some (t21.1, t21.2.1, t21.2.2.1, true))) else ((impl_copyStore.f k a0_0 a0_1 a0_2).bind fun t20 => (some (t20.1, t20.2.1, t20.2.2, false)))))))))) else ((impl_copyStore.f k a0_0 a0_1 a0_2).bind fun t5 => (some (t5.1, t5.2.1, t5.2.2, false))))) else ((impl_copyStore.f k a0_0 a0_1 a0_2).bind fun t3 => (some (t3.1, t3.2.1, t3.2.2, false))))))
noncomputable def impl_Enter.e (r : (List S53) × (List S88) × Int × Bool) : Res Ty D := (.tu [.ag [.sl 0 none, .sl 1 none, .sc (.int .i64 r.2.2.1)], .sc (.bool r.2.2.2)], [], [.rowb .t53 r.1 0, .rowb .t88 r.2.1 0])
noncomputable abbrev impl_Enter.g (rec : List Item → St Ty D → R) (k : Nat) := go1 Try.f13 (impl_Enter.ctx k) impl_Enter.sp 0 impl_Enter.en rec
set_option maxRecDepth 100000 in
theorem impl_Enter.te (rec : List Item → St Ty D → R) (k : Nat) (a0_0 : List S53) (a0_1 : List S88) (a0_2 : Int) (a1_0 : Int) (a1_1 : Int) (a1_2 : Int) (a1_3 : Int) : impl_Enter.g rec k [.code (body Try.f13)] (startSt [.ag [.row 0 .t53 a0_0, .row 0 .t88 a0_1, .sc (.int .i64 a0_2)], .ag [.sc (.int .i64 a1_0), .sc (.int .i64 a1_1), .sc (.int .i64 a1_2), .sc (.int .i64 a1_3)]] []) =
  (impl_copyStore.f k a0_0 a0_1 a0_2).bind fun t1 => (impl_StoreOk.f k a0_0 a0_1 a0_2).bind fun t2 => bif !t2 then (impl_copyStore.f k a0_0 a0_1 a0_2).bind fun t3 => some (impl_Enter.e (t3.1, t3.2.1, t3.2.2, false)) else (impl_RecOk.f k a1_0 a1_1 a1_2 a1_3).bind fun t4 => bif !t4 then (impl_copyStore.f k a0_0 a0_1 a0_2).bind fun t5 => some (impl_Enter.e (t5.1, t5.2.1, t5.2.2, false)) else (impl_Store_enter.f k a1_0 a1_1 a1_2 a1_3 t1.2.2 t1.1 t1.2.1).bind (Sum.elim (fun t7 => bif !t7.1 then (impl_copyStore.f k a0_0 a0_1 a0_2).bind fun t8 => some (impl_Enter.e (t8.1, t8.2.1, t8.2.2, false)) else (impl_Store_sweep.f k t7.2.2.2.1 t7.2.1 t7.2.2.1).bind fun t9 => some (impl_Enter.e (t9.1, t9.2.1, t9.2.2.1, true))) (Sum.elim (fun t10 => bif !t10.1 then (impl_copyStore.f k a0_0 a0_1 a0_2).bind fun t11 => some (impl_Enter.e (t11.1, t11.2.1, t11.2.2, false)) else (impl_Store_sweep.f k t10.2.2.2 t10.2.1 t10.2.2.1).bind fun t12 => some (impl_Enter.e (t12.1, t12.2.1, t12.2.2.1, true))) (Sum.elim (fun t13 => bif !t13.1 then (impl_copyStore.f k a0_0 a0_1 a0_2).bind fun t14 => some (impl_Enter.e (t14.1, t14.2.1, t14.2.2, false)) else (impl_Store_sweep.f k t13.2.2.2 t13.2.1 t13.2.2.1).bind fun t15 => some (impl_Enter.e (t15.1, t15.2.1, t15.2.2.1, true))) (Sum.elim (fun t16 => bif !t16.1 then (impl_copyStore.f k a0_0 a0_1 a0_2).bind fun t17 => some (impl_Enter.e (t17.1, t17.2.1, t17.2.2, false)) else (impl_Store_sweep.f k t16.2.2.2.1 t16.2.1 t16.2.2.1).bind fun t18 => some (impl_Enter.e (t18.1, t18.2.1, t18.2.2.1, true))) (fun t19 => bif !t19.1 then (impl_copyStore.f k a0_0 a0_1 a0_2).bind fun t20 => some (impl_Enter.e (t20.1, t20.2.1, t20.2.2, false)) else (impl_Store_sweep.f k t19.2.2.2.1 t19.2.1 t19.2.2.1).bind fun t21 => some (impl_Enter.e (t21.1, t21.2.1, t21.2.2.1, true))))))) := by kernel_rfl
set_option maxRecDepth 100000 in
theorem impl_Enter.oke (k : Nat) (a0_0 : List S53) (a0_1 : List S88) (a0_2 : Int) (a1_0 : Int) (a1_1 : Int) (a1_2 : Int) (a1_3 : Int) : goF Try.f13 impl_Enter.ctx impl_Enter.sp 0 impl_Enter.en (k + 1) [.code (body Try.f13)] (startSt [.ag [.row 0 .t53 a0_0, .row 0 .t88 a0_1, .sc (.int .i64 a0_2)], .ag [.sc (.int .i64 a1_0), .sc (.int .i64 a1_1), .sc (.int .i64 a1_2), .sc (.int .i64 a1_3)]] []) = (impl_Enter.f k a0_0 a0_1 a0_2 a1_0 a1_1 a1_2 a1_3).map impl_Enter.e := by
  rw [impl_Enter.f]; exact (impl_Enter.te _ k a0_0 a0_1 a0_2 a1_0 a1_1 a1_2 a1_3).trans (bn (fun t1 => (bn (fun t2 => (nb (bn (fun t3 => rfl)) (bn (fun t4 => (nb (bn (fun t5 => rfl)) (bn (el (fun t7 => (nb (bn (fun t8 => rfl)) (bn (fun t9 => rfl)))) (el (fun t10 => (nb (bn (fun t11 => rfl)) (bn (fun t12 => rfl)))) (el (fun t13 => (nb (bn (fun t14 => rfl)) (bn (fun t15 => rfl)))) (el (fun t16 => (nb (bn (fun t17 => rfl)) (bn (fun t18 => rfl)))) (fun t19 => (nb (bn (fun t20 => rfl)) (bn (fun t21 => rfl)))))))))))))))))
theorem impl_Enter.con (k : Nat) (a0_0 : List S53) (a0_1 : List S88) (a0_2 : Int) (a1_0 : Int) (a1_1 : Int) (a1_2 : Int) (a1_3 : Int) (r) (h : impl_Enter.f k a0_0 a0_1 a0_2 a1_0 a1_1 a1_2 a1_3 = some r) : Contract Try.prog kit 13 [.ag [.row 0 .t53 a0_0, .row 0 .t88 a0_1, .sc (.int .i64 a0_2)], .ag [.sc (.int .i64 a1_0), .sc (.int .i64 a1_1), .sc (.int .i64 a1_2), .sc (.int .i64 a1_3)]] [] (impl_Enter.e r).1 (impl_Enter.e r).2.1 (impl_Enter.e r).2.2 :=
  con_okG kitOk mix (fun k => (CtxOk.cons (impl_StoreOk.xok k) (CtxOk.cons (impl_copyStore.xok k) (CtxOk.cons (impl_RecOk.xok k) (CtxOk.cons (impl_Store_enter.xok k) (CtxOk.cons (impl_Store_sweep.xok k) CtxOk.nil)))))) (impl_Enter.oke k a0_0 a0_1 a0_2 a1_0 a1_1 a1_2 a1_3) h (by kernel_rfl) (by kernel_rfl) (by kernel_rfl) rfl (by kernel_rfl) rfl rfl
noncomputable def impl_Enter.x (k : Nat) : X := fun ins bs κ => match ins, bs with
  | [.ag [.row 0 .t53 a0_0, .row 0 .t88 a0_1, .sc (.int .i64 a0_2)], .ag [.sc (.int .i64 a1_0), .sc (.int .i64 a1_1), .sc (.int .i64 a1_2), .sc (.int .i64 a1_3)]], [] => (impl_Enter.f k a0_0 a0_1 a0_2 a1_0 a1_1 a1_2 a1_3).bind fun r => κ (impl_Enter.e r).1 (impl_Enter.e r).2.1 (impl_Enter.e r).2.2
  | _, _ => none
theorem impl_Enter.xok (k : Nat) : XOk 13 (impl_Enter.x k) := by
  intro ins bs κ res h
  unfold impl_Enter.x at h
  split at h
  · obtain ⟨r, hr, h⟩ := Option.bind_eq_some_iff.1 h
    exact ⟨_, _, _, impl_Enter.con k _ _ _ _ _ _ _ r hr, h⟩
  · cases h

/-! ### laws_eqVol: function 88 -/
noncomputable def laws_eqVol.sp : Nat → Option (Spec Ty) := fun r => none
noncomputable def laws_eqVol.en : Option (Spec Ty) := none
noncomputable def laws_eqVol.ctx (k : Nat) : Ctx Ty D := (fun _ _ _ _ => none)
noncomputable def laws_eqVol.f (k : Nat) (a0_0 : Int) (a0_1 : Int) (a1_0 : Int) (a1_1 : Int) : Option (Bool) := (if a0_0 = a1_0 then (if a0_1 = a1_1 then (some (true)) else (some (false))) else (some (false)))
noncomputable def laws_eqVol.e (r : Bool) : Res Ty D := (.sc (.bool r), [], [])
noncomputable abbrev laws_eqVol.g (rec : List Item → St Ty D → R) (k : Nat) := go1 Try.f88 (laws_eqVol.ctx k) laws_eqVol.sp 0 laws_eqVol.en rec
set_option maxRecDepth 100000 in
theorem laws_eqVol.te (rec : List Item → St Ty D → R) (k : Nat) (a0_0 : Int) (a0_1 : Int) (a1_0 : Int) (a1_1 : Int) : laws_eqVol.g rec k [.code (body Try.f88)] (startSt [.ag [.sc (.int .i64 a0_0), .sc (.int .i64 a0_1)], .ag [.sc (.int .i64 a1_0), .sc (.int .i64 a1_1)]] []) =
  bif !decide (a0_0 = a1_0) then some (laws_eqVol.e (false)) else bif !decide (a0_1 = a1_1) then some (laws_eqVol.e (false)) else some (laws_eqVol.e (true)) := by kernel_rfl
set_option maxRecDepth 100000 in
theorem laws_eqVol.oke (k : Nat) (a0_0 : Int) (a0_1 : Int) (a1_0 : Int) (a1_1 : Int) : goF Try.f88 laws_eqVol.ctx laws_eqVol.sp 0 laws_eqVol.en (k + 1) [.code (body Try.f88)] (startSt [.ag [.sc (.int .i64 a0_0), .sc (.int .i64 a0_1)], .ag [.sc (.int .i64 a1_0), .sc (.int .i64 a1_1)]] []) = (laws_eqVol.f k a0_0 a0_1 a1_0 a1_1).map laws_eqVol.e := by
  rw [laws_eqVol.f]; exact (laws_eqVol.te _ k a0_0 a0_1 a1_0 a1_1).trans (nd rfl (nd rfl rfl))
theorem laws_eqVol.con (k : Nat) (a0_0 : Int) (a0_1 : Int) (a1_0 : Int) (a1_1 : Int) (r) (h : laws_eqVol.f k a0_0 a0_1 a1_0 a1_1 = some r) : Contract Try.prog kit 88 [.ag [.sc (.int .i64 a0_0), .sc (.int .i64 a0_1)], .ag [.sc (.int .i64 a1_0), .sc (.int .i64 a1_1)]] [] (laws_eqVol.e r).1 (laws_eqVol.e r).2.1 (laws_eqVol.e r).2.2 :=
  con_okG kitOk mix (fun k => CtxOk.nil) (laws_eqVol.oke k a0_0 a0_1 a1_0 a1_1) h (by kernel_rfl) (by kernel_rfl) (by kernel_rfl) rfl (by kernel_rfl) rfl rfl
noncomputable def laws_eqVol.x (k : Nat) : X := fun ins bs κ => match ins, bs with
  | [.ag [.sc (.int .i64 a0_0), .sc (.int .i64 a0_1)], .ag [.sc (.int .i64 a1_0), .sc (.int .i64 a1_1)]], [] => (laws_eqVol.f k a0_0 a0_1 a1_0 a1_1).bind fun r => κ (laws_eqVol.e r).1 (laws_eqVol.e r).2.1 (laws_eqVol.e r).2.2
  | _, _ => none
theorem laws_eqVol.xok (k : Nat) : XOk 88 (laws_eqVol.x k) := by
  intro ins bs κ res h
  unfold laws_eqVol.x at h
  split at h
  · obtain ⟨r, hr, h⟩ := Option.bind_eq_some_iff.1 h
    exact ⟨_, _, _, laws_eqVol.con k _ _ _ _ r hr, h⟩
  · cases h

/-! ### laws_eqVolS: function 49 -/
noncomputable def laws_eqVolS.sp : Nat → Option (Spec Ty) := fun r => bif Nat.beq r 4 then some ⟨[(0, .keep), (1, .keep), (5, .keep)], []⟩ else none
noncomputable def laws_eqVolS.en : Option (Spec Ty) := none
noncomputable def laws_eqVolS.s4 (x0 : List S53) (x1 : List S53) (x5 : Int) : St Ty D := ⟨(Env.put (Env.put (Env.put E (some 0) (.row 0 .t53 x0)) (some 1) (.row 0 .t53 x1)) (some 5) (.sc (.int .i64 x5))), H0, 1000⟩
noncomputable def laws_eqVolS.ctx (k : Nat) : Ctx Ty D := (cons 88 (laws_eqVol.x k) (fun _ _ _ _ => none))
noncomputable def laws_eqVolS.c4 : Nat → (List S53) → (List S53) → Int → Option (Bool)
  | 0, _, _, _ => none
  | k + 1, x0, x1, x5 => (if x5 < (x0.length : Int) then (if 0 ≤ x5 then (if x5 < (x0.length : Int) then (if 0 ≤ x5 then (if x5 < (x1.length : Int) then ((laws_eqVol.f k ((rd_T53 x0 x5).f0) ((rd_T53 x0 x5).f1) ((rd_T53 x1 x5).f0) ((rd_T53 x1 x5).f1)).bind fun t1 => (if t1 = true then (laws_eqVolS.c4 k x0 x1 (w64 (x5 + 1))) else (some (false)))) else none) else none) else none) else none) else (some (true)))
noncomputable def laws_eqVolS.f (k : Nat) (a0 : List S53) (a1 : List S53) : Option (Bool) := (if (a0.length : Int) = (a1.length : Int) then (laws_eqVolS.c4 k a0 a1 0) else (some (false)))
noncomputable def laws_eqVolS.e (r : Bool) : Res Ty D := (.sc (.bool r), [], [])
noncomputable abbrev laws_eqVolS.g (rec : List Item → St Ty D → R) (k : Nat) := go1 Try.f49 (laws_eqVolS.ctx k) laws_eqVolS.sp 0 laws_eqVolS.en rec
set_option maxRecDepth 100000 in
theorem laws_eqVolS.t4 (rec : List Item → St Ty D → R) (k : Nat) (x0 : List S53) (x1 : List S53) (x5 : Int) : laws_eqVolS.g rec k (td Try.f49 4) (laws_eqVolS.s4 x0 x1 x5) =
  bif decide (x5 < (x0.length : Int)) then bif decide (0 ≤ x5) then bif decide (x5 < (x0.length : Int)) then bif decide (0 ≤ x5) then bif decide (x5 < (x1.length : Int)) then (laws_eqVol.f k ((rd_T53 x0 x5).f0) ((rd_T53 x0 x5).f1) ((rd_T53 x1 x5).f0) ((rd_T53 x1 x5).f1)).bind fun t1 => bif !t1 then some (laws_eqVolS.e (false)) else rec (td Try.f49 4) (laws_eqVolS.s4 x0 x1 (w64 (x5 + 1))) else none else none else none else none else some (laws_eqVolS.e (true)) := by kernel_rfl
set_option maxRecDepth 100000 in
theorem laws_eqVolS.te (rec : List Item → St Ty D → R) (k : Nat) (a0 : List S53) (a1 : List S53) : laws_eqVolS.g rec k [.code (body Try.f49)] (startSt [.row 0 .t53 a0, .row 0 .t53 a1] []) =
  bif !decide ((a0.length : Int) = (a1.length : Int)) then some (laws_eqVolS.e (false)) else rec (td Try.f49 4) (laws_eqVolS.s4 a0 a1 0) := by kernel_rfl
set_option maxRecDepth 100000 in
theorem laws_eqVolS.ok : ∀ k : Nat, (∀ (x0 : List S53) (x1 : List S53) (x5 : Int), goF Try.f49 laws_eqVolS.ctx laws_eqVolS.sp 0 laws_eqVolS.en k (td Try.f49 4) (laws_eqVolS.s4 x0 x1 x5) = (laws_eqVolS.c4 k x0 x1 x5).map laws_eqVolS.e)
  | 0 => fun _ _ _ => rfl
  | k + 1 => by
    have ih := laws_eqVolS.ok k
    have i4 := ih
    intro x0 x1 x5; rw [laws_eqVolS.c4]; exact (laws_eqVolS.t4 _ k x0 x1 x5).trans (cd (cd (cd (cd (cd (bn (fun t1 => (nb rfl (i4 _ _ _)))) rfl) rfl) rfl) rfl) rfl)
set_option maxRecDepth 100000 in
theorem laws_eqVolS.oke (k : Nat) (a0 : List S53) (a1 : List S53) : goF Try.f49 laws_eqVolS.ctx laws_eqVolS.sp 0 laws_eqVolS.en (k + 1) [.code (body Try.f49)] (startSt [.row 0 .t53 a0, .row 0 .t53 a1] []) = (laws_eqVolS.f k a0 a1).map laws_eqVolS.e := by
  have i4 := laws_eqVolS.ok k
  rw [laws_eqVolS.f]; exact (laws_eqVolS.te _ k a0 a1).trans (nd rfl (i4 _ _ _))
theorem laws_eqVolS.con (k : Nat) (a0 : List S53) (a1 : List S53) (r) (h : laws_eqVolS.f k a0 a1 = some r) : Contract Try.prog kit 49 [.row 0 .t53 a0, .row 0 .t53 a1] [] (laws_eqVolS.e r).1 (laws_eqVolS.e r).2.1 (laws_eqVolS.e r).2.2 :=
  con_okG kitOk mix (fun k => (CtxOk.cons (laws_eqVol.xok k) CtxOk.nil)) (laws_eqVolS.oke k a0 a1) h (by kernel_rfl) (by kernel_rfl) (by kernel_rfl) rfl (by kernel_rfl) rfl rfl
noncomputable def laws_eqVolS.x (k : Nat) : X := fun ins bs κ => match ins, bs with
  | [.row 0 .t53 a0, .row 0 .t53 a1], [] => (laws_eqVolS.f k a0 a1).bind fun r => κ (laws_eqVolS.e r).1 (laws_eqVolS.e r).2.1 (laws_eqVolS.e r).2.2
  | _, _ => none
theorem laws_eqVolS.xok (k : Nat) : XOk 49 (laws_eqVolS.x k) := by
  intro ins bs κ res h
  unfold laws_eqVolS.x at h
  split at h
  · obtain ⟨r, hr, h⟩ := Option.bind_eq_some_iff.1 h
    exact ⟨_, _, _, laws_eqVolS.con k _ _ r hr, h⟩
  · cases h
end Go.Proofs.Yteideicglgpfiaa.M2

/- Plain runs of functions: each is a plain Lean function, and keeps its contract. Written by a program of this session. -/
namespace Go.Proofs.Yteideicglgpfiaa.M2
open Go Go.Proofs.Yteideicglgpfiaa.PK
set_option linter.unusedVariables false
set_option linter.unusedSimpArgs false
set_option maxHeartbeats 4000000
/-! ### laws_eqIntS: function 113 -/
noncomputable def laws_eqIntS.sp : Nat → Option (Spec Ty) := fun r => bif Nat.beq r 4 then some ⟨[(0, .keep), (1, .keep), (5, .keep)], []⟩ else none
noncomputable def laws_eqIntS.en : Option (Spec Ty) := none
noncomputable def laws_eqIntS.s4 (x0 : List Int) (x1 : List Int) (x5 : Int) : St Ty D := ⟨(Env.put (Env.put (Env.put E (some 0) (.row 0 .t3 x0)) (some 1) (.row 0 .t3 x1)) (some 5) (.sc (.int .i64 x5))), H0, 1000⟩
noncomputable def laws_eqIntS.ctx (k : Nat) : Ctx Ty D := (fun _ _ _ _ => none)
noncomputable def laws_eqIntS.c4 : Nat → (List Int) → (List Int) → Int → Option (Bool)
  | 0, _, _, _ => none
  | k + 1, x0, x1, x5 => (if x5 < (x0.length : Int) then (if 0 ≤ x5 then (if x5 < (x0.length : Int) then (if 0 ≤ x5 then (if x5 < (x1.length : Int) then (if (rd_T3 x0 x5) = (rd_T3 x1 x5) then (laws_eqIntS.c4 k x0 x1 (w64 (x5 + 1))) else (some (false))) else none) else none) else none) else none) else (some (true)))
noncomputable def laws_eqIntS.f (k : Nat) (a0 : List Int) (a1 : List Int) : Option (Bool) := (if (a0.length : Int) = (a1.length : Int) then (laws_eqIntS.c4 k a0 a1 0) else (some (false)))
noncomputable def laws_eqIntS.e (r : Bool) : Res Ty D := (.sc (.bool r), [], [])
noncomputable abbrev laws_eqIntS.g (rec : List Item → St Ty D → R) (k : Nat) := go1 Try.f113 (laws_eqIntS.ctx k) laws_eqIntS.sp 0 laws_eqIntS.en rec
set_option maxRecDepth 100000 in
theorem laws_eqIntS.t4 (rec : List Item → St Ty D → R) (k : Nat) (x0 : List Int) (x1 : List Int) (x5 : Int) : laws_eqIntS.g rec k (td Try.f113 4) (laws_eqIntS.s4 x0 x1 x5) =
  bif decide (x5 < (x0.length : Int)) then bif decide (0 ≤ x5) then bif decide (x5 < (x0.length : Int)) then bif decide (0 ≤ x5) then bif decide (x5 < (x1.length : Int)) then bif !decide ((rd_T3 x0 x5) = (rd_T3 x1 x5)) then some (laws_eqIntS.e (false)) else rec (td Try.f113 4) (laws_eqIntS.s4 x0 x1 (w64 (x5 + 1))) else none else none else none else none else some (laws_eqIntS.e (true)) := by kernel_rfl
set_option maxRecDepth 100000 in
theorem laws_eqIntS.te (rec : List Item → St Ty D → R) (k : Nat) (a0 : List Int) (a1 : List Int) : laws_eqIntS.g rec k [.code (body Try.f113)] (startSt [.row 0 .t3 a0, .row 0 .t3 a1] []) =
  bif !decide ((a0.length : Int) = (a1.length : Int)) then some (laws_eqIntS.e (false)) else rec (td Try.f113 4) (laws_eqIntS.s4 a0 a1 0) := by kernel_rfl
set_option maxRecDepth 100000 in
theorem laws_eqIntS.ok : ∀ k : Nat, (∀ (x0 : List Int) (x1 : List Int) (x5 : Int), goF Try.f113 laws_eqIntS.ctx laws_eqIntS.sp 0 laws_eqIntS.en k (td Try.f113 4) (laws_eqIntS.s4 x0 x1 x5) = (laws_eqIntS.c4 k x0 x1 x5).map laws_eqIntS.e)
  | 0 => fun _ _ _ => rfl
  | k + 1 => by
    have ih := laws_eqIntS.ok k
    have i4 := ih
    intro x0 x1 x5; rw [laws_eqIntS.c4]; exact (laws_eqIntS.t4 _ k x0 x1 x5).trans (cd (cd (cd (cd (cd (nd rfl (i4 _ _ _)) rfl) rfl) rfl) rfl) rfl)
set_option maxRecDepth 100000 in
theorem laws_eqIntS.oke (k : Nat) (a0 : List Int) (a1 : List Int) : goF Try.f113 laws_eqIntS.ctx laws_eqIntS.sp 0 laws_eqIntS.en (k + 1) [.code (body Try.f113)] (startSt [.row 0 .t3 a0, .row 0 .t3 a1] []) = (laws_eqIntS.f k a0 a1).map laws_eqIntS.e := by
  have i4 := laws_eqIntS.ok k
  rw [laws_eqIntS.f]; exact (laws_eqIntS.te _ k a0 a1).trans (nd rfl (i4 _ _ _))
theorem laws_eqIntS.con (k : Nat) (a0 : List Int) (a1 : List Int) (r) (h : laws_eqIntS.f k a0 a1 = some r) : Contract Try.prog kit 113 [.row 0 .t3 a0, .row 0 .t3 a1] [] (laws_eqIntS.e r).1 (laws_eqIntS.e r).2.1 (laws_eqIntS.e r).2.2 :=
  con_okG kitOk mix (fun k => CtxOk.nil) (laws_eqIntS.oke k a0 a1) h (by kernel_rfl) (by kernel_rfl) (by kernel_rfl) rfl (by kernel_rfl) rfl rfl
noncomputable def laws_eqIntS.x (k : Nat) : X := fun ins bs κ => match ins, bs with
  | [.row 0 .t3 a0, .row 0 .t3 a1], [] => (laws_eqIntS.f k a0 a1).bind fun r => κ (laws_eqIntS.e r).1 (laws_eqIntS.e r).2.1 (laws_eqIntS.e r).2.2
  | _, _ => none
theorem laws_eqIntS.xok (k : Nat) : XOk 113 (laws_eqIntS.x k) := by
  intro ins bs κ res h
  unfold laws_eqIntS.x at h
  split at h
  · obtain ⟨r, hr, h⟩ := Option.bind_eq_some_iff.1 h
    exact ⟨_, _, _, laws_eqIntS.con k _ _ r hr, h⟩
  · cases h

/-! ### laws_eqKnot: function 102 -/
noncomputable def laws_eqKnot.sp : Nat → Option (Spec Ty) := fun r => none
noncomputable def laws_eqKnot.en : Option (Spec Ty) := none
noncomputable def laws_eqKnot.ctx (k : Nat) : Ctx Ty D := (cons 113 (laws_eqIntS.x k) (fun _ _ _ _ => none))
noncomputable def laws_eqKnot.f (k : Nat) (a0_0 : Bool) (a0_1 : List Int) (a1_0 : Bool) (a1_1 : List Int) : Option (Bool) := (if (a0_0 == a1_0) = true then ((laws_eqIntS.f k a0_1 a1_1).bind fun t1 => (if t1 = true then (some (true)) else (some (false)))) else (some (false)))
noncomputable def laws_eqKnot.e (r : Bool) : Res Ty D := (.sc (.bool r), [], [])
noncomputable abbrev laws_eqKnot.g (rec : List Item → St Ty D → R) (k : Nat) := go1 Try.f102 (laws_eqKnot.ctx k) laws_eqKnot.sp 0 laws_eqKnot.en rec
set_option maxRecDepth 100000 in
theorem laws_eqKnot.te (rec : List Item → St Ty D → R) (k : Nat) (a0_0 : Bool) (a0_1 : List Int) (a1_0 : Bool) (a1_1 : List Int) : laws_eqKnot.g rec k [.code (body Try.f102)] (startSt [.ag [.sc (.bool a0_0), .row 0 .t3 a0_1], .ag [.sc (.bool a1_0), .row 0 .t3 a1_1]] []) =
  bif !(a0_0 == a1_0) then some (laws_eqKnot.e (false)) else (laws_eqIntS.f k a0_1 a1_1).bind fun t1 => bif !t1 then some (laws_eqKnot.e (false)) else some (laws_eqKnot.e (true)) := by kernel_rfl
set_option maxRecDepth 100000 in
theorem laws_eqKnot.oke (k : Nat) (a0_0 : Bool) (a0_1 : List Int) (a1_0 : Bool) (a1_1 : List Int) : goF Try.f102 laws_eqKnot.ctx laws_eqKnot.sp 0 laws_eqKnot.en (k + 1) [.code (body Try.f102)] (startSt [.ag [.sc (.bool a0_0), .row 0 .t3 a0_1], .ag [.sc (.bool a1_0), .row 0 .t3 a1_1]] []) = (laws_eqKnot.f k a0_0 a0_1 a1_0 a1_1).map laws_eqKnot.e := by
  rw [laws_eqKnot.f]; exact (laws_eqKnot.te _ k a0_0 a0_1 a1_0 a1_1).trans (nb rfl (bn (fun t1 => (nb rfl rfl))))
theorem laws_eqKnot.con (k : Nat) (a0_0 : Bool) (a0_1 : List Int) (a1_0 : Bool) (a1_1 : List Int) (r) (h : laws_eqKnot.f k a0_0 a0_1 a1_0 a1_1 = some r) : Contract Try.prog kit 102 [.ag [.sc (.bool a0_0), .row 0 .t3 a0_1], .ag [.sc (.bool a1_0), .row 0 .t3 a1_1]] [] (laws_eqKnot.e r).1 (laws_eqKnot.e r).2.1 (laws_eqKnot.e r).2.2 :=
  con_okG kitOk mix (fun k => (CtxOk.cons (laws_eqIntS.xok k) CtxOk.nil)) (laws_eqKnot.oke k a0_0 a0_1 a1_0 a1_1) h (by kernel_rfl) (by kernel_rfl) (by kernel_rfl) rfl (by kernel_rfl) rfl rfl
noncomputable def laws_eqKnot.x (k : Nat) : X := fun ins bs κ => match ins, bs with
  | [.ag [.sc (.bool a0_0), .row 0 .t3 a0_1], .ag [.sc (.bool a1_0), .row 0 .t3 a1_1]], [] => (laws_eqKnot.f k a0_0 a0_1 a1_0 a1_1).bind fun r => κ (laws_eqKnot.e r).1 (laws_eqKnot.e r).2.1 (laws_eqKnot.e r).2.2
  | _, _ => none
theorem laws_eqKnot.xok (k : Nat) : XOk 102 (laws_eqKnot.x k) := by
  intro ins bs κ res h
  unfold laws_eqKnot.x at h
  split at h
  · obtain ⟨r, hr, h⟩ := Option.bind_eq_some_iff.1 h
    exact ⟨_, _, _, laws_eqKnot.con k _ _ _ _ r hr, h⟩
  · cases h

/-! ### laws_eqKnotS: function 89 -/
noncomputable def laws_eqKnotS.sp : Nat → Option (Spec Ty) := fun r => bif Nat.beq r 4 then some ⟨[(0, .keep), (1, .keep), (5, .keep)], []⟩ else none
noncomputable def laws_eqKnotS.en : Option (Spec Ty) := none
noncomputable def laws_eqKnotS.s4 (x0 : List S88) (x1 : List S88) (x5 : Int) : St Ty D := ⟨(Env.put (Env.put (Env.put E (some 0) (.row 0 .t88 x0)) (some 1) (.row 0 .t88 x1)) (some 5) (.sc (.int .i64 x5))), H0, 1000⟩
noncomputable def laws_eqKnotS.ctx (k : Nat) : Ctx Ty D := (cons 102 (laws_eqKnot.x k) (fun _ _ _ _ => none))
noncomputable def laws_eqKnotS.c4 : Nat → (List S88) → (List S88) → Int → Option (Bool)
  | 0, _, _, _ => none
  | k + 1, x0, x1, x5 => (if x5 < (x0.length : Int) then (if 0 ≤ x5 then (if x5 < (x0.length : Int) then (if 0 ≤ x5 then (if x5 < (x1.length : Int) then ((laws_eqKnot.f k ((rd_T88 x0 x5).f0) ((rd_T88 x0 x5).f1) ((rd_T88 x1 x5).f0) ((rd_T88 x1 x5).f1)).bind fun t1 => (if t1 = true then (laws_eqKnotS.c4 k x0 x1 (w64 (x5 + 1))) else (some (false)))) else none) else none) else none) else none) else (some (true)))
noncomputable def laws_eqKnotS.f (k : Nat) (a0 : List S88) (a1 : List S88) : Option (Bool) := (if (a0.length : Int) = (a1.length : Int) then (laws_eqKnotS.c4 k a0 a1 0) else (some (false)))
noncomputable def laws_eqKnotS.e (r : Bool) : Res Ty D := (.sc (.bool r), [], [])
noncomputable abbrev laws_eqKnotS.g (rec : List Item → St Ty D → R) (k : Nat) := go1 Try.f89 (laws_eqKnotS.ctx k) laws_eqKnotS.sp 0 laws_eqKnotS.en rec
set_option maxRecDepth 100000 in
theorem laws_eqKnotS.t4 (rec : List Item → St Ty D → R) (k : Nat) (x0 : List S88) (x1 : List S88) (x5 : Int) : laws_eqKnotS.g rec k (td Try.f89 4) (laws_eqKnotS.s4 x0 x1 x5) =
  bif decide (x5 < (x0.length : Int)) then bif decide (0 ≤ x5) then bif decide (x5 < (x0.length : Int)) then bif decide (0 ≤ x5) then bif decide (x5 < (x1.length : Int)) then (laws_eqKnot.f k ((rd_T88 x0 x5).f0) ((rd_T88 x0 x5).f1) ((rd_T88 x1 x5).f0) ((rd_T88 x1 x5).f1)).bind fun t1 => bif !t1 then some (laws_eqKnotS.e (false)) else rec (td Try.f89 4) (laws_eqKnotS.s4 x0 x1 (w64 (x5 + 1))) else none else none else none else none else some (laws_eqKnotS.e (true)) := by kernel_rfl
set_option maxRecDepth 100000 in
theorem laws_eqKnotS.te (rec : List Item → St Ty D → R) (k : Nat) (a0 : List S88) (a1 : List S88) : laws_eqKnotS.g rec k [.code (body Try.f89)] (startSt [.row 0 .t88 a0, .row 0 .t88 a1] []) =
  bif !decide ((a0.length : Int) = (a1.length : Int)) then some (laws_eqKnotS.e (false)) else rec (td Try.f89 4) (laws_eqKnotS.s4 a0 a1 0) := by kernel_rfl
set_option maxRecDepth 100000 in
theorem laws_eqKnotS.ok : ∀ k : Nat, (∀ (x0 : List S88) (x1 : List S88) (x5 : Int), goF Try.f89 laws_eqKnotS.ctx laws_eqKnotS.sp 0 laws_eqKnotS.en k (td Try.f89 4) (laws_eqKnotS.s4 x0 x1 x5) = (laws_eqKnotS.c4 k x0 x1 x5).map laws_eqKnotS.e)
  | 0 => fun _ _ _ => rfl
  | k + 1 => by
    have ih := laws_eqKnotS.ok k
    have i4 := ih
    intro x0 x1 x5; rw [laws_eqKnotS.c4]; exact (laws_eqKnotS.t4 _ k x0 x1 x5).trans (cd (cd (cd (cd (cd (bn (fun t1 => (nb rfl (i4 _ _ _)))) rfl) rfl) rfl) rfl) rfl)
set_option maxRecDepth 100000 in
theorem laws_eqKnotS.oke (k : Nat) (a0 : List S88) (a1 : List S88) : goF Try.f89 laws_eqKnotS.ctx laws_eqKnotS.sp 0 laws_eqKnotS.en (k + 1) [.code (body Try.f89)] (startSt [.row 0 .t88 a0, .row 0 .t88 a1] []) = (laws_eqKnotS.f k a0 a1).map laws_eqKnotS.e := by
  have i4 := laws_eqKnotS.ok k
  rw [laws_eqKnotS.f]; exact (laws_eqKnotS.te _ k a0 a1).trans (nd rfl (i4 _ _ _))
theorem laws_eqKnotS.con (k : Nat) (a0 : List S88) (a1 : List S88) (r) (h : laws_eqKnotS.f k a0 a1 = some r) : Contract Try.prog kit 89 [.row 0 .t88 a0, .row 0 .t88 a1] [] (laws_eqKnotS.e r).1 (laws_eqKnotS.e r).2.1 (laws_eqKnotS.e r).2.2 :=
  con_okG kitOk mix (fun k => (CtxOk.cons (laws_eqKnot.xok k) CtxOk.nil)) (laws_eqKnotS.oke k a0 a1) h (by kernel_rfl) (by kernel_rfl) (by kernel_rfl) rfl (by kernel_rfl) rfl rfl
noncomputable def laws_eqKnotS.x (k : Nat) : X := fun ins bs κ => match ins, bs with
  | [.row 0 .t88 a0, .row 0 .t88 a1], [] => (laws_eqKnotS.f k a0 a1).bind fun r => κ (laws_eqKnotS.e r).1 (laws_eqKnotS.e r).2.1 (laws_eqKnotS.e r).2.2
  | _, _ => none
theorem laws_eqKnotS.xok (k : Nat) : XOk 89 (laws_eqKnotS.x k) := by
  intro ins bs κ res h
  unfold laws_eqKnotS.x at h
  split at h
  · obtain ⟨r, hr, h⟩ := Option.bind_eq_some_iff.1 h
    exact ⟨_, _, _, laws_eqKnotS.con k _ _ r hr, h⟩
  · cases h

/-! ### laws_eqArena: function 50 -/
noncomputable def laws_eqArena.sp : Nat → Option (Spec Ty) := fun r => none
noncomputable def laws_eqArena.en : Option (Spec Ty) := none
noncomputable def laws_eqArena.ctx (k : Nat) : Ctx Ty D := (cons 89 (laws_eqKnotS.x k) (fun _ _ _ _ => none))
noncomputable def laws_eqArena.f (k : Nat) (a0_0 : List S88) (a1_0 : List S88) : Option (Bool) := ((laws_eqKnotS.f k a0_0 a1_0).bind fun t1 => (if t1 = true then (some (true)) else (some (false))))
noncomputable def laws_eqArena.e (r : Bool) : Res Ty D := (.sc (.bool r), [], [])
noncomputable abbrev laws_eqArena.g (rec : List Item → St Ty D → R) (k : Nat) := go1 Try.f50 (laws_eqArena.ctx k) laws_eqArena.sp 0 laws_eqArena.en rec
set_option maxRecDepth 100000 in
theorem laws_eqArena.te (rec : List Item → St Ty D → R) (k : Nat) (a0_0 : List S88) (a1_0 : List S88) : laws_eqArena.g rec k [.code (body Try.f50)] (startSt [.ag [.row 0 .t88 a0_0], .ag [.row 0 .t88 a1_0]] []) =
  (laws_eqKnotS.f k a0_0 a1_0).bind fun t1 => bif !t1 then some (laws_eqArena.e (false)) else some (laws_eqArena.e (true)) := by kernel_rfl
set_option maxRecDepth 100000 in
theorem laws_eqArena.oke (k : Nat) (a0_0 : List S88) (a1_0 : List S88) : goF Try.f50 laws_eqArena.ctx laws_eqArena.sp 0 laws_eqArena.en (k + 1) [.code (body Try.f50)] (startSt [.ag [.row 0 .t88 a0_0], .ag [.row 0 .t88 a1_0]] []) = (laws_eqArena.f k a0_0 a1_0).map laws_eqArena.e := by
  rw [laws_eqArena.f]; exact (laws_eqArena.te _ k a0_0 a1_0).trans (bn (fun t1 => (nb rfl rfl)))
theorem laws_eqArena.con (k : Nat) (a0_0 : List S88) (a1_0 : List S88) (r) (h : laws_eqArena.f k a0_0 a1_0 = some r) : Contract Try.prog kit 50 [.ag [.row 0 .t88 a0_0], .ag [.row 0 .t88 a1_0]] [] (laws_eqArena.e r).1 (laws_eqArena.e r).2.1 (laws_eqArena.e r).2.2 :=
  con_okG kitOk mix (fun k => (CtxOk.cons (laws_eqKnotS.xok k) CtxOk.nil)) (laws_eqArena.oke k a0_0 a1_0) h (by kernel_rfl) (by kernel_rfl) (by kernel_rfl) rfl (by kernel_rfl) rfl rfl
noncomputable def laws_eqArena.x (k : Nat) : X := fun ins bs κ => match ins, bs with
  | [.ag [.row 0 .t88 a0_0], .ag [.row 0 .t88 a1_0]], [] => (laws_eqArena.f k a0_0 a1_0).bind fun r => κ (laws_eqArena.e r).1 (laws_eqArena.e r).2.1 (laws_eqArena.e r).2.2
  | _, _ => none
theorem laws_eqArena.xok (k : Nat) : XOk 50 (laws_eqArena.x k) := by
  intro ins bs κ res h
  unfold laws_eqArena.x at h
  split at h
  · obtain ⟨r, hr, h⟩ := Option.bind_eq_some_iff.1 h
    exact ⟨_, _, _, laws_eqArena.con k _ _ r hr, h⟩
  · cases h

/-! ### laws_eqStore: function 14 -/
noncomputable def laws_eqStore.sp : Nat → Option (Spec Ty) := fun r => none
noncomputable def laws_eqStore.en : Option (Spec Ty) := none
noncomputable def laws_eqStore.ctx (k : Nat) : Ctx Ty D := (cons 49 (laws_eqVolS.x k) (cons 50 (laws_eqArena.x k) (fun _ _ _ _ => none)))
noncomputable def laws_eqStore.f (k : Nat) (a0_0 : List S53) (a0_1 : List S88) (a0_2 : Int) (a1_0 : List S53) (a1_1 : List S88) (a1_2 : Int) : Option (Bool) := ((laws_eqVolS.f k a0_0 a1_0).bind fun t1 => (if t1 = true then ((laws_eqArena.f k a0_1 a1_1).bind fun t2 => (if t2 = true then (if a0_2 = a1_2 then (some (true)) else (some (false))) else (some (false)))) else (some (false))))
noncomputable def laws_eqStore.e (r : Bool) : Res Ty D := (.sc (.bool r), [], [])
noncomputable abbrev laws_eqStore.g (rec : List Item → St Ty D → R) (k : Nat) := go1 Try.f14 (laws_eqStore.ctx k) laws_eqStore.sp 0 laws_eqStore.en rec
set_option maxRecDepth 100000 in
theorem laws_eqStore.te (rec : List Item → St Ty D → R) (k : Nat) (a0_0 : List S53) (a0_1 : List S88) (a0_2 : Int) (a1_0 : List S53) (a1_1 : List S88) (a1_2 : Int) : laws_eqStore.g rec k [.code (body Try.f14)] (startSt [.ag [.row 0 .t53 a0_0, .row 0 .t88 a0_1, .sc (.int .i64 a0_2)], .ag [.row 0 .t53 a1_0, .row 0 .t88 a1_1, .sc (.int .i64 a1_2)]] []) =
  (laws_eqVolS.f k a0_0 a1_0).bind fun t1 => bif !t1 then some (laws_eqStore.e (false)) else (laws_eqArena.f k a0_1 a1_1).bind fun t2 => bif !t2 then some (laws_eqStore.e (false)) else bif !decide (a0_2 = a1_2) then some (laws_eqStore.e (false)) else some (laws_eqStore.e (true)) := by kernel_rfl
set_option maxRecDepth 100000 in
theorem laws_eqStore.oke (k : Nat) (a0_0 : List S53) (a0_1 : List S88) (a0_2 : Int) (a1_0 : List S53) (a1_1 : List S88) (a1_2 : Int) : goF Try.f14 laws_eqStore.ctx laws_eqStore.sp 0 laws_eqStore.en (k + 1) [.code (body Try.f14)] (startSt [.ag [.row 0 .t53 a0_0, .row 0 .t88 a0_1, .sc (.int .i64 a0_2)], .ag [.row 0 .t53 a1_0, .row 0 .t88 a1_1, .sc (.int .i64 a1_2)]] []) = (laws_eqStore.f k a0_0 a0_1 a0_2 a1_0 a1_1 a1_2).map laws_eqStore.e := by
  rw [laws_eqStore.f]; exact (laws_eqStore.te _ k a0_0 a0_1 a0_2 a1_0 a1_1 a1_2).trans (bn (fun t1 => (nb rfl (bn (fun t2 => (nb rfl (nd rfl rfl)))))))
theorem laws_eqStore.con (k : Nat) (a0_0 : List S53) (a0_1 : List S88) (a0_2 : Int) (a1_0 : List S53) (a1_1 : List S88) (a1_2 : Int) (r) (h : laws_eqStore.f k a0_0 a0_1 a0_2 a1_0 a1_1 a1_2 = some r) : Contract Try.prog kit 14 [.ag [.row 0 .t53 a0_0, .row 0 .t88 a0_1, .sc (.int .i64 a0_2)], .ag [.row 0 .t53 a1_0, .row 0 .t88 a1_1, .sc (.int .i64 a1_2)]] [] (laws_eqStore.e r).1 (laws_eqStore.e r).2.1 (laws_eqStore.e r).2.2 :=
  con_okG kitOk mix (fun k => (CtxOk.cons (laws_eqVolS.xok k) (CtxOk.cons (laws_eqArena.xok k) CtxOk.nil))) (laws_eqStore.oke k a0_0 a0_1 a0_2 a1_0 a1_1 a1_2) h (by kernel_rfl) (by kernel_rfl) (by kernel_rfl) rfl (by kernel_rfl) rfl rfl
noncomputable def laws_eqStore.x (k : Nat) : X := fun ins bs κ => match ins, bs with
  | [.ag [.row 0 .t53 a0_0, .row 0 .t88 a0_1, .sc (.int .i64 a0_2)], .ag [.row 0 .t53 a1_0, .row 0 .t88 a1_1, .sc (.int .i64 a1_2)]], [] => (laws_eqStore.f k a0_0 a0_1 a0_2 a1_0 a1_1 a1_2).bind fun r => κ (laws_eqStore.e r).1 (laws_eqStore.e r).2.1 (laws_eqStore.e r).2.2
  | _, _ => none
theorem laws_eqStore.xok (k : Nat) : XOk 14 (laws_eqStore.x k) := by
  intro ins bs κ res h
  unfold laws_eqStore.x at h
  split at h
  · obtain ⟨r, hr, h⟩ := Option.bind_eq_some_iff.1 h
    exact ⟨_, _, _, laws_eqStore.con k _ _ _ _ _ _ r hr, h⟩
  · cases h

/-! ### laws_markVolS: function 51 -/
noncomputable def laws_markVolS.sp : Nat → Option (Spec Ty) := fun r => bif Nat.beq r 2 then some ⟨[(0, .own .t53), (1, .keep), (5, .keep)], [(0, none)]⟩ else none
noncomputable def laws_markVolS.en : Option (Spec Ty) := none
noncomputable def laws_markVolS.s2 (x1 : Int) (x5 : Int) (h0 : List S53) : St Ty D := ⟨(Env.put (Env.put (Env.put E (some 0) (.sl 0 none)) (some 1) (.sc (.int .i64 x1))) (some 5) (.sc (.int .i64 x5))), Heap.put H0 [(0, some (.rowb .t53 h0 0))], 1000⟩
noncomputable def laws_markVolS.ctx (k : Nat) : Ctx Ty D := (fun _ _ _ _ => none)
noncomputable def laws_markVolS.c2 : Nat → Int → Int → (List S53) → Option (Int × (List S53))
  | 0, _, _, _ => none
  | k + 1, x1, x5, h0 => (if x5 < (h0.length : Int) then (if 0 ≤ x5 then (if x5 < (h0.length : Int) then (if 0 ≤ x5 then (if x5 < ((h0.set x5.toNat (S53.mk x1 ((rd_T53 h0 x5).f1))).length : Int) then (laws_markVolS.c2 k (w64 ((w64 (x1 + 1)) + 1)) (w64 (x5 + 1)) ((h0.set x5.toNat (S53.mk x1 ((rd_T53 h0 x5).f1))).set x5.toNat (S53.mk ((rd_T53 (h0.set x5.toNat (S53.mk x1 ((rd_T53 h0 x5).f1))) x5).f0) (w64 (x1 + 1))))) else none) else none) else none) else none) else (some (x1, h0)))
noncomputable def laws_markVolS.f (k : Nat) (a1 : Int) (a0 : List S53) : Option (Int × (List S53)) := (laws_markVolS.c2 k a1 0 a0)
noncomputable def laws_markVolS.e (r : Int × (List S53)) : Res Ty D := (.sc (.int .i64 r.1), [some (.rowb .t53 r.2 0)], [])
noncomputable abbrev laws_markVolS.g (rec : List Item → St Ty D → R) (k : Nat) := go1 Try.f51 (laws_markVolS.ctx k) laws_markVolS.sp 1 laws_markVolS.en rec
set_option maxRecDepth 100000 in
theorem laws_markVolS.t2 (rec : List Item → St Ty D → R) (k : Nat) (x1 : Int) (x5 : Int) (h0 : List S53) : laws_markVolS.g rec k (td Try.f51 2) (laws_markVolS.s2 x1 x5 h0) =
  bif decide (x5 < (h0.length : Int)) then bif decide (0 ≤ x5) then bif decide (x5 < (h0.length : Int)) then bif decide (0 ≤ x5) then bif decide (x5 < ((h0.set x5.toNat (S53.mk x1 ((rd_T53 h0 x5).f1))).length : Int)) then rec (td Try.f51 2) (laws_markVolS.s2 (w64 ((w64 (x1 + 1)) + 1)) (w64 (x5 + 1)) ((h0.set x5.toNat (S53.mk x1 ((rd_T53 h0 x5).f1))).set x5.toNat (S53.mk ((rd_T53 (h0.set x5.toNat (S53.mk x1 ((rd_T53 h0 x5).f1))) x5).f0) (w64 (x1 + 1))))) else none else none else none else none else some (laws_markVolS.e (x1, h0)) := by kernel_rfl
set_option maxRecDepth 100000 in
theorem laws_markVolS.te (rec : List Item → St Ty D → R) (k : Nat) (a1 : Int) (a0 : List S53) : laws_markVolS.g rec k [.code (body Try.f51)] (startSt [.sl 0 none, .sc (.int .i64 a1)] [.rowb .t53 a0 0]) =
  rec (td Try.f51 2) (laws_markVolS.s2 a1 0 a0) := by kernel_rfl
set_option maxRecDepth 100000 in
theorem laws_markVolS.ok : ∀ k : Nat, (∀ (x1 : Int) (x5 : Int) (h0 : List S53), goF Try.f51 laws_markVolS.ctx laws_markVolS.sp 1 laws_markVolS.en k (td Try.f51 2) (laws_markVolS.s2 x1 x5 h0) = (laws_markVolS.c2 k x1 x5 h0).map laws_markVolS.e)
  | 0 => fun _ _ _ => rfl
  | k + 1 => by
    have ih := laws_markVolS.ok k
    have i2 := ih
    intro x1 x5 h0; rw [laws_markVolS.c2]; exact (laws_markVolS.t2 _ k x1 x5 h0).trans (cd (cd (cd (cd (cd (i2 _ _ _) rfl) rfl) rfl) rfl) rfl)
set_option maxRecDepth 100000 in
theorem laws_markVolS.oke (k : Nat) (a1 : Int) (a0 : List S53) : goF Try.f51 laws_markVolS.ctx laws_markVolS.sp 1 laws_markVolS.en (k + 1) [.code (body Try.f51)] (startSt [.sl 0 none, .sc (.int .i64 a1)] [.rowb .t53 a0 0]) = (laws_markVolS.f k a1 a0).map laws_markVolS.e := by
  have i2 := laws_markVolS.ok k
  rw [laws_markVolS.f]; exact (laws_markVolS.te _ k a1 a0).trans (i2 _ _ _)
theorem laws_markVolS.con (k : Nat) (a1 : Int) (a0 : List S53) (r) (h : laws_markVolS.f k a1 a0 = some r) : Contract Try.prog kit 51 [.sl 0 none, .sc (.int .i64 a1)] [.rowb .t53 a0 0] (laws_markVolS.e r).1 (laws_markVolS.e r).2.1 (laws_markVolS.e r).2.2 :=
  con_okG kitOk mix (fun k => CtxOk.nil) (laws_markVolS.oke k a1 a0) h (by kernel_rfl) (by kernel_rfl) (by kernel_rfl) rfl (by kernel_rfl) rfl rfl
noncomputable def laws_markVolS.x (k : Nat) : X := fun ins bs κ => match ins, bs with
  | [.sl 0 none, .sc (.int .i64 a1)], [.rowb .t53 a0 0] => (laws_markVolS.f k a1 a0).bind fun r => κ (laws_markVolS.e r).1 (laws_markVolS.e r).2.1 (laws_markVolS.e r).2.2
  | _, _ => none
theorem laws_markVolS.xok (k : Nat) : XOk 51 (laws_markVolS.x k) := by
  intro ins bs κ res h
  unfold laws_markVolS.x at h
  split at h
  · obtain ⟨r, hr, h⟩ := Option.bind_eq_some_iff.1 h
    exact ⟨_, _, _, laws_markVolS.con k _ _ r hr, h⟩
  · cases h

/-! ### laws_markIntS: function 103 -/
noncomputable def laws_markIntS.sp : Nat → Option (Spec Ty) := fun r => bif Nat.beq r 2 then some ⟨[(0, .own .t3), (1, .keep), (5, .keep)], [(0, none)]⟩ else none
noncomputable def laws_markIntS.en : Option (Spec Ty) := none
noncomputable def laws_markIntS.s2 (x1 : Int) (x5 : Int) (h0 : List Int) : St Ty D := ⟨(Env.put (Env.put (Env.put E (some 0) (.sl 0 none)) (some 1) (.sc (.int .i64 x1))) (some 5) (.sc (.int .i64 x5))), Heap.put H0 [(0, some (.rowb .t3 h0 0))], 1000⟩
noncomputable def laws_markIntS.ctx (k : Nat) : Ctx Ty D := (fun _ _ _ _ => none)
noncomputable def laws_markIntS.c2 : Nat → Int → Int → (List Int) → Option (Int × (List Int))
  | 0, _, _, _ => none
  | k + 1, x1, x5, h0 => (if x5 < (h0.length : Int) then (if 0 ≤ x5 then (if x5 < (h0.length : Int) then (laws_markIntS.c2 k (w64 (x1 + 1)) (w64 (x5 + 1)) (h0.set x5.toNat x1)) else none) else none) else (some (x1, h0)))
noncomputable def laws_markIntS.f (k : Nat) (a1 : Int) (a0 : List Int) : Option (Int × (List Int)) := (laws_markIntS.c2 k a1 0 a0)
noncomputable def laws_markIntS.e (r : Int × (List Int)) : Res Ty D := (.sc (.int .i64 r.1), [some (.rowb .t3 r.2 0)], [])
noncomputable abbrev laws_markIntS.g (rec : List Item → St Ty D → R) (k : Nat) := go1 Try.f103 (laws_markIntS.ctx k) laws_markIntS.sp 1 laws_markIntS.en rec
set_option maxRecDepth 100000 in
theorem laws_markIntS.t2 (rec : List Item → St Ty D → R) (k : Nat) (x1 : Int) (x5 : Int) (h0 : List Int) : laws_markIntS.g rec k (td Try.f103 2) (laws_markIntS.s2 x1 x5 h0) =
  bif decide (x5 < (h0.length : Int)) then bif decide (0 ≤ x5) then bif decide (x5 < (h0.length : Int)) then rec (td Try.f103 2) (laws_markIntS.s2 (w64 (x1 + 1)) (w64 (x5 + 1)) (h0.set x5.toNat x1)) else none else none else some (laws_markIntS.e (x1, h0)) := by kernel_rfl
set_option maxRecDepth 100000 in
theorem laws_markIntS.te (rec : List Item → St Ty D → R) (k : Nat) (a1 : Int) (a0 : List Int) : laws_markIntS.g rec k [.code (body Try.f103)] (startSt [.sl 0 none, .sc (.int .i64 a1)] [.rowb .t3 a0 0]) =
  rec (td Try.f103 2) (laws_markIntS.s2 a1 0 a0) := by kernel_rfl
set_option maxRecDepth 100000 in
theorem laws_markIntS.ok : ∀ k : Nat, (∀ (x1 : Int) (x5 : Int) (h0 : List Int), goF Try.f103 laws_markIntS.ctx laws_markIntS.sp 1 laws_markIntS.en k (td Try.f103 2) (laws_markIntS.s2 x1 x5 h0) = (laws_markIntS.c2 k x1 x5 h0).map laws_markIntS.e)
  | 0 => fun _ _ _ => rfl
  | k + 1 => by
    have ih := laws_markIntS.ok k
    have i2 := ih
    intro x1 x5 h0; rw [laws_markIntS.c2]; exact (laws_markIntS.t2 _ k x1 x5 h0).trans (cd (cd (cd (i2 _ _ _) rfl) rfl) rfl)
set_option maxRecDepth 100000 in
theorem laws_markIntS.oke (k : Nat) (a1 : Int) (a0 : List Int) : goF Try.f103 laws_markIntS.ctx laws_markIntS.sp 1 laws_markIntS.en (k + 1) [.code (body Try.f103)] (startSt [.sl 0 none, .sc (.int .i64 a1)] [.rowb .t3 a0 0]) = (laws_markIntS.f k a1 a0).map laws_markIntS.e := by
  have i2 := laws_markIntS.ok k
  rw [laws_markIntS.f]; exact (laws_markIntS.te _ k a1 a0).trans (i2 _ _ _)
theorem laws_markIntS.con (k : Nat) (a1 : Int) (a0 : List Int) (r) (h : laws_markIntS.f k a1 a0 = some r) : Contract Try.prog kit 103 [.sl 0 none, .sc (.int .i64 a1)] [.rowb .t3 a0 0] (laws_markIntS.e r).1 (laws_markIntS.e r).2.1 (laws_markIntS.e r).2.2 :=
  con_okG kitOk mix (fun k => CtxOk.nil) (laws_markIntS.oke k a1 a0) h (by kernel_rfl) (by kernel_rfl) (by kernel_rfl) rfl (by kernel_rfl) rfl rfl
noncomputable def laws_markIntS.x (k : Nat) : X := fun ins bs κ => match ins, bs with
  | [.sl 0 none, .sc (.int .i64 a1)], [.rowb .t3 a0 0] => (laws_markIntS.f k a1 a0).bind fun r => κ (laws_markIntS.e r).1 (laws_markIntS.e r).2.1 (laws_markIntS.e r).2.2
  | _, _ => none
theorem laws_markIntS.xok (k : Nat) : XOk 103 (laws_markIntS.x k) := by
  intro ins bs κ res h
  unfold laws_markIntS.x at h
  split at h
  · obtain ⟨r, hr, h⟩ := Option.bind_eq_some_iff.1 h
    exact ⟨_, _, _, laws_markIntS.con k _ _ r hr, h⟩
  · cases h

/-! ### laws_markKnotS: function 90 -/
noncomputable def laws_markKnotS.sp : Nat → Option (Spec Ty) := fun r => bif Nat.beq r 2 then some ⟨[(0, .own .t88), (1, .keep), (5, .keep)], [(0, none)]⟩ else none
noncomputable def laws_markKnotS.en : Option (Spec Ty) := none
noncomputable def laws_markKnotS.s2 (x1 : Int) (x5 : Int) (h0 : List S88) : St Ty D := ⟨(Env.put (Env.put (Env.put E (some 0) (.sl 0 none)) (some 1) (.sc (.int .i64 x1))) (some 5) (.sc (.int .i64 x5))), Heap.put H0 [(0, some (.rowb .t88 h0 0))], 1000⟩
noncomputable def laws_markKnotS.ctx (k : Nat) : Ctx Ty D := (cons 103 (laws_markIntS.x k) (fun _ _ _ _ => none))
noncomputable def laws_markKnotS.c2 : Nat → Int → Int → (List S88) → Option (Int × (List S88))
  | 0, _, _, _ => none
  | k + 1, x1, x5, h0 => (if x5 < (h0.length : Int) then (if 0 ≤ x5 then (if x5 < (h0.length : Int) then (if 0 ≤ x5 then (if x5 < ((h0.set x5.toNat (S88.mk (decide ((Int.tmod x1 3) = 0)) ((rd_T88 h0 x5).f1))).length : Int) then ((laws_markIntS.f k (w64 (x1 + 1)) ((rd_T88 (h0.set x5.toNat (S88.mk (decide ((Int.tmod x1 3) = 0)) ((rd_T88 h0 x5).f1))) x5).f1)).bind fun t1 => (laws_markKnotS.c2 k t1.1 (w64 (x5 + 1)) ((h0.set x5.toNat (S88.mk (decide ((Int.tmod x1 3) = 0)) ((rd_T88 h0 x5).f1))).set x5.toNat (S88.mk ((rd_T88 (h0.set x5.toNat (S88.mk (decide ((Int.tmod x1 3) = 0)) ((rd_T88 h0 x5).f1))) x5).f0) t1.2)))) else none) else none) else none) else none) else (some (x1, h0)))
noncomputable def laws_markKnotS.f (k : Nat) (a1 : Int) (a0 : List S88) : Option (Int × (List S88)) := (laws_markKnotS.c2 k a1 0 a0)
noncomputable def laws_markKnotS.e (r : Int × (List S88)) : Res Ty D := (.sc (.int .i64 r.1), [some (.rowb .t88 r.2 0)], [])
noncomputable abbrev laws_markKnotS.g (rec : List Item → St Ty D → R) (k : Nat) := go1 Try.f90 (laws_markKnotS.ctx k) laws_markKnotS.sp 1 laws_markKnotS.en rec
set_option maxRecDepth 100000 in
theorem laws_markKnotS.t2 (rec : List Item → St Ty D → R) (k : Nat) (x1 : Int) (x5 : Int) (h0 : List S88) : laws_markKnotS.g rec k (td Try.f90 2) (laws_markKnotS.s2 x1 x5 h0) =
  bif decide (x5 < (h0.length : Int)) then bif decide (0 ≤ x5) then bif decide (x5 < (h0.length : Int)) then bif decide (0 ≤ x5) then bif decide (x5 < ((h0.set x5.toNat (S88.mk (decide ((Int.tmod x1 3) = 0)) ((rd_T88 h0 x5).f1))).length : Int)) then (laws_markIntS.f k (w64 (x1 + 1)) ((rd_T88 (h0.set x5.toNat (S88.mk (decide ((Int.tmod x1 3) = 0)) ((rd_T88 h0 x5).f1))) x5).f1)).bind fun t1 => rec (td Try.f90 2) (laws_markKnotS.s2 t1.1 (w64 (x5 + 1)) ((h0.set x5.toNat (S88.mk (decide ((Int.tmod x1 3) = 0)) ((rd_T88 h0 x5).f1))).set x5.toNat (S88.mk ((rd_T88 (h0.set x5.toNat (S88.mk (decide ((Int.tmod x1 3) = 0)) ((rd_T88 h0 x5).f1))) x5).f0) t1.2))) else none else none else none else none else some (laws_markKnotS.e (x1, h0)) := by kernel_rfl
set_option maxRecDepth 100000 in
theorem laws_markKnotS.te (rec : List Item → St Ty D → R) (k : Nat) (a1 : Int) (a0 : List S88) : laws_markKnotS.g rec k [.code (body Try.f90)] (startSt [.sl 0 none, .sc (.int .i64 a1)] [.rowb .t88 a0 0]) =
  rec (td Try.f90 2) (laws_markKnotS.s2 a1 0 a0) := by kernel_rfl
set_option maxRecDepth 100000 in
theorem laws_markKnotS.ok : ∀ k : Nat, (∀ (x1 : Int) (x5 : Int) (h0 : List S88), goF Try.f90 laws_markKnotS.ctx laws_markKnotS.sp 1 laws_markKnotS.en k (td Try.f90 2) (laws_markKnotS.s2 x1 x5 h0) = (laws_markKnotS.c2 k x1 x5 h0).map laws_markKnotS.e)
  | 0 => fun _ _ _ => rfl
  | k + 1 => by
    have ih := laws_markKnotS.ok k
    have i2 := ih
    intro x1 x5 h0; rw [laws_markKnotS.c2]; exact (laws_markKnotS.t2 _ k x1 x5 h0).trans (cd (cd (cd (cd (cd (bn (fun t1 => (i2 _ _ _))) rfl) rfl) rfl) rfl) rfl)
set_option maxRecDepth 100000 in
theorem laws_markKnotS.oke (k : Nat) (a1 : Int) (a0 : List S88) : goF Try.f90 laws_markKnotS.ctx laws_markKnotS.sp 1 laws_markKnotS.en (k + 1) [.code (body Try.f90)] (startSt [.sl 0 none, .sc (.int .i64 a1)] [.rowb .t88 a0 0]) = (laws_markKnotS.f k a1 a0).map laws_markKnotS.e := by
  have i2 := laws_markKnotS.ok k
  rw [laws_markKnotS.f]; exact (laws_markKnotS.te _ k a1 a0).trans (i2 _ _ _)
theorem laws_markKnotS.con (k : Nat) (a1 : Int) (a0 : List S88) (r) (h : laws_markKnotS.f k a1 a0 = some r) : Contract Try.prog kit 90 [.sl 0 none, .sc (.int .i64 a1)] [.rowb .t88 a0 0] (laws_markKnotS.e r).1 (laws_markKnotS.e r).2.1 (laws_markKnotS.e r).2.2 :=
  con_okG kitOk mix (fun k => (CtxOk.cons (laws_markIntS.xok k) CtxOk.nil)) (laws_markKnotS.oke k a1 a0) h (by kernel_rfl) (by kernel_rfl) (by kernel_rfl) rfl (by kernel_rfl) rfl rfl
noncomputable def laws_markKnotS.x (k : Nat) : X := fun ins bs κ => match ins, bs with
  | [.sl 0 none, .sc (.int .i64 a1)], [.rowb .t88 a0 0] => (laws_markKnotS.f k a1 a0).bind fun r => κ (laws_markKnotS.e r).1 (laws_markKnotS.e r).2.1 (laws_markKnotS.e r).2.2
  | _, _ => none
theorem laws_markKnotS.xok (k : Nat) : XOk 90 (laws_markKnotS.x k) := by
  intro ins bs κ res h
  unfold laws_markKnotS.x at h
  split at h
  · obtain ⟨r, hr, h⟩ := Option.bind_eq_some_iff.1 h
    exact ⟨_, _, _, laws_markKnotS.con k _ _ r hr, h⟩
  · cases h

/-! ### laws_markArena: function 52 -/
noncomputable def laws_markArena.sp : Nat → Option (Spec Ty) := fun r => none
noncomputable def laws_markArena.en : Option (Spec Ty) := none
noncomputable def laws_markArena.ctx (k : Nat) : Ctx Ty D := (cons 90 (laws_markKnotS.x k) (fun _ _ _ _ => none))
noncomputable def laws_markArena.f (k : Nat) (a1 : Int) (a0_0 : List S88) : Option (Int × (List S88)) := ((laws_markKnotS.f k a1 a0_0).bind fun t1 => (some (t1.1, t1.2)))
noncomputable def laws_markArena.e (r : Int × (List S88)) : Res Ty D := (.sc (.int .i64 r.1), [some (.rowb .t88 r.2 1)], [])
noncomputable abbrev laws_markArena.g (rec : List Item → St Ty D → R) (k : Nat) := go1 Try.f52 (laws_markArena.ctx k) laws_markArena.sp 1 laws_markArena.en rec
set_option maxRecDepth 100000 in
theorem laws_markArena.te (rec : List Item → St Ty D → R) (k : Nat) (a1 : Int) (a0_0 : List S88) : laws_markArena.g rec k [.code (body Try.f52)] (startSt [.ag [.sl 0 none], .sc (.int .i64 a1)] [.rowb .t88 a0_0 0]) =
  (laws_markKnotS.f k a1 a0_0).bind fun t1 => some (laws_markArena.e (t1.1, t1.2)) := by kernel_rfl
set_option maxRecDepth 100000 in
theorem laws_markArena.oke (k : Nat) (a1 : Int) (a0_0 : List S88) : goF Try.f52 laws_markArena.ctx laws_markArena.sp 1 laws_markArena.en (k + 1) [.code (body Try.f52)] (startSt [.ag [.sl 0 none], .sc (.int .i64 a1)] [.rowb .t88 a0_0 0]) = (laws_markArena.f k a1 a0_0).map laws_markArena.e := by
  rw [laws_markArena.f]; exact (laws_markArena.te _ k a1 a0_0).trans (bn (fun t1 => rfl))
theorem laws_markArena.con (k : Nat) (a1 : Int) (a0_0 : List S88) (r) (h : laws_markArena.f k a1 a0_0 = some r) : Contract Try.prog kit 52 [.ag [.sl 0 none], .sc (.int .i64 a1)] [.rowb .t88 a0_0 0] (laws_markArena.e r).1 (laws_markArena.e r).2.1 (laws_markArena.e r).2.2 :=
  con_okG kitOk mix (fun k => (CtxOk.cons (laws_markKnotS.xok k) CtxOk.nil)) (laws_markArena.oke k a1 a0_0) h (by kernel_rfl) (by kernel_rfl) (by kernel_rfl) rfl (by kernel_rfl) rfl rfl
noncomputable def laws_markArena.x (k : Nat) : X := fun ins bs κ => match ins, bs with
  | [.ag [.sl 0 none], .sc (.int .i64 a1)], [.rowb .t88 a0_0 0] => (laws_markArena.f k a1 a0_0).bind fun r => κ (laws_markArena.e r).1 (laws_markArena.e r).2.1 (laws_markArena.e r).2.2
  | _, _ => none
theorem laws_markArena.xok (k : Nat) : XOk 52 (laws_markArena.x k) := by
  intro ins bs κ res h
  unfold laws_markArena.x at h
  split at h
  · obtain ⟨r, hr, h⟩ := Option.bind_eq_some_iff.1 h
    exact ⟨_, _, _, laws_markArena.con k _ _ r hr, h⟩
  · cases h

/-! ### laws_markStore: function 15 -/
noncomputable def laws_markStore.sp : Nat → Option (Spec Ty) := fun r => none
noncomputable def laws_markStore.en : Option (Spec Ty) := none
noncomputable def laws_markStore.ctx (k : Nat) : Ctx Ty D := (cons 51 (laws_markVolS.x k) (cons 52 (laws_markArena.x k) (fun _ _ _ _ => none)))
noncomputable def laws_markStore.f (k : Nat) (a0_2 : Int) (a1 : Int) (a0_0 : List S53) (a0_1 : List S88) : Option (Int × (List S53) × (List S88)) := ((laws_markVolS.f k a1 a0_0).bind fun t1 => ((laws_markArena.f k t1.1 a0_1).bind fun t2 => (some (t2.1, t1.2, t2.2))))
noncomputable def laws_markStore.e (r : Int × (List S53) × (List S88)) : Res Ty D := (.sc (.int .i64 r.1), [some (.rowb .t53 r.2.1 1), some (.rowb .t88 r.2.2 1)], [])
noncomputable abbrev laws_markStore.g (rec : List Item → St Ty D → R) (k : Nat) := go1 Try.f15 (laws_markStore.ctx k) laws_markStore.sp 2 laws_markStore.en rec
set_option maxRecDepth 100000 in
theorem laws_markStore.te (rec : List Item → St Ty D → R) (k : Nat) (a0_2 : Int) (a1 : Int) (a0_0 : List S53) (a0_1 : List S88) : laws_markStore.g rec k [.code (body Try.f15)] (startSt [.ag [.sl 0 none, .sl 1 none, .sc (.int .i64 a0_2)], .sc (.int .i64 a1)] [.rowb .t53 a0_0 0, .rowb .t88 a0_1 0]) =
  (laws_markVolS.f k a1 a0_0).bind fun t1 => (laws_markArena.f k t1.1 a0_1).bind fun t2 => some (laws_markStore.e (t2.1, t1.2, t2.2)) := by kernel_rfl
set_option maxRecDepth 100000 in
theorem laws_markStore.oke (k : Nat) (a0_2 : Int) (a1 : Int) (a0_0 : List S53) (a0_1 : List S88) : goF Try.f15 laws_markStore.ctx laws_markStore.sp 2 laws_markStore.en (k + 1) [.code (body Try.f15)] (startSt [.ag [.sl 0 none, .sl 1 none, .sc (.int .i64 a0_2)], .sc (.int .i64 a1)] [.rowb .t53 a0_0 0, .rowb .t88 a0_1 0]) = (laws_markStore.f k a0_2 a1 a0_0 a0_1).map laws_markStore.e := by
  rw [laws_markStore.f]; exact (laws_markStore.te _ k a0_2 a1 a0_0 a0_1).trans (bn (fun t1 => (bn (fun t2 => rfl))))
theorem laws_markStore.con (k : Nat) (a0_2 : Int) (a1 : Int) (a0_0 : List S53) (a0_1 : List S88) (r) (h : laws_markStore.f k a0_2 a1 a0_0 a0_1 = some r) : Contract Try.prog kit 15 [.ag [.sl 0 none, .sl 1 none, .sc (.int .i64 a0_2)], .sc (.int .i64 a1)] [.rowb .t53 a0_0 0, .rowb .t88 a0_1 0] (laws_markStore.e r).1 (laws_markStore.e r).2.1 (laws_markStore.e r).2.2 :=
  con_okG kitOk mix (fun k => (CtxOk.cons (laws_markVolS.xok k) (CtxOk.cons (laws_markArena.xok k) CtxOk.nil))) (laws_markStore.oke k a0_2 a1 a0_0 a0_1) h (by kernel_rfl) (by kernel_rfl) (by kernel_rfl) rfl (by kernel_rfl) rfl rfl
noncomputable def laws_markStore.x (k : Nat) : X := fun ins bs κ => match ins, bs with
  | [.ag [.sl 0 none, .sl 1 none, .sc (.int .i64 a0_2)], .sc (.int .i64 a1)], [.rowb .t53 a0_0 0, .rowb .t88 a0_1 0] => (laws_markStore.f k a0_2 a1 a0_0 a0_1).bind fun r => κ (laws_markStore.e r).1 (laws_markStore.e r).2.1 (laws_markStore.e r).2.2
  | _, _ => none
theorem laws_markStore.xok (k : Nat) : XOk 15 (laws_markStore.x k) := by
  intro ins bs κ res h
  unfold laws_markStore.x at h
  split at h
  · obtain ⟨r, hr, h⟩ := Option.bind_eq_some_iff.1 h
    exact ⟨_, _, _, laws_markStore.con k _ _ _ _ r hr, h⟩
  · cases h

/-! ### laws_heldVolS: function 53 -/
noncomputable def laws_heldVolS.sp : Nat → Option (Spec Ty) := fun r => bif Nat.beq r 2 then some ⟨[(0, .keep), (1, .keep), (5, .keep)], []⟩ else none
noncomputable def laws_heldVolS.en : Option (Spec Ty) := none
noncomputable def laws_heldVolS.s2 (x0 : List S53) (x1 : Int) (x5 : Int) : St Ty D := ⟨(Env.put (Env.put (Env.put E (some 0) (.row 0 .t53 x0)) (some 1) (.sc (.int .i64 x1))) (some 5) (.sc (.int .i64 x5))), H0, 1000⟩
noncomputable def laws_heldVolS.ctx (k : Nat) : Ctx Ty D := (fun _ _ _ _ => none)
noncomputable def laws_heldVolS.c2 : Nat → (List S53) → Int → Int → Option (Int)
  | 0, _, _, _ => none
  | k + 1, x0, x1, x5 => (if x5 < (x0.length : Int) then (if 0 ≤ x5 then (if x5 < (x0.length : Int) then (if ((rd_T53 x0 x5).f0) = x1 then (if 0 ≤ x5 then (if x5 < (x0.length : Int) then (if ((rd_T53 x0 x5).f1) = (w64 (x1 + 1)) then (laws_heldVolS.c2 k x0 (w64 ((w64 (x1 + 1)) + 1)) (w64 (x5 + 1))) else (some ((-1)))) else none) else none) else (some ((-1)))) else none) else none) else (some (x1)))
noncomputable def laws_heldVolS.f (k : Nat) (a0 : List S53) (a1 : Int) : Option (Int) := (laws_heldVolS.c2 k a0 a1 0)
noncomputable def laws_heldVolS.e (r : Int) : Res Ty D := (.sc (.int .i64 r), [], [])
noncomputable abbrev laws_heldVolS.g (rec : List Item → St Ty D → R) (k : Nat) := go1 Try.f53 (laws_heldVolS.ctx k) laws_heldVolS.sp 0 laws_heldVolS.en rec
set_option maxRecDepth 100000 in
theorem laws_heldVolS.t2 (rec : List Item → St Ty D → R) (k : Nat) (x0 : List S53) (x1 : Int) (x5 : Int) : laws_heldVolS.g rec k (td Try.f53 2) (laws_heldVolS.s2 x0 x1 x5) =
  bif decide (x5 < (x0.length : Int)) then bif decide (0 ≤ x5) then bif decide (x5 < (x0.length : Int)) then bif !decide (((rd_T53 x0 x5).f0) = x1) then some (laws_heldVolS.e ((-1))) else bif decide (0 ≤ x5) then bif decide (x5 < (x0.length : Int)) then bif !decide (((rd_T53 x0 x5).f1) = (w64 (x1 + 1))) then some (laws_heldVolS.e ((-1))) else rec (td Try.f53 2) (laws_heldVolS.s2 x0 (w64 ((w64 (x1 + 1)) + 1)) (w64 (x5 + 1))) else none else none else none else none else some (laws_heldVolS.e (x1)) := by kernel_rfl
set_option maxRecDepth 100000 in
theorem laws_heldVolS.te (rec : List Item → St Ty D → R) (k : Nat) (a0 : List S53) (a1 : Int) : laws_heldVolS.g rec k [.code (body Try.f53)] (startSt [.row 0 .t53 a0, .sc (.int .i64 a1)] []) =
  rec (td Try.f53 2) (laws_heldVolS.s2 a0 a1 0) := by kernel_rfl
set_option maxRecDepth 100000 in
theorem laws_heldVolS.ok : ∀ k : Nat, (∀ (x0 : List S53) (x1 : Int) (x5 : Int), goF Try.f53 laws_heldVolS.ctx laws_heldVolS.sp 0 laws_heldVolS.en k (td Try.f53 2) (laws_heldVolS.s2 x0 x1 x5) = (laws_heldVolS.c2 k x0 x1 x5).map laws_heldVolS.e)
  | 0 => fun _ _ _ => rfl
  | k + 1 => by
    have ih := laws_heldVolS.ok k
    have i2 := ih
    intro x0 x1 x5; rw [laws_heldVolS.c2]; exact (laws_heldVolS.t2 _ k x0 x1 x5).trans (cd (cd (cd (nd rfl (cd (cd (nd rfl (i2 _ _ _)) rfl) rfl)) rfl) rfl) rfl)
set_option maxRecDepth 100000 in
theorem laws_heldVolS.oke (k : Nat) (a0 : List S53) (a1 : Int) : goF Try.f53 laws_heldVolS.ctx laws_heldVolS.sp 0 laws_heldVolS.en (k + 1) [.code (body Try.f53)] (startSt [.row 0 .t53 a0, .sc (.int .i64 a1)] []) = (laws_heldVolS.f k a0 a1).map laws_heldVolS.e := by
  have i2 := laws_heldVolS.ok k
  rw [laws_heldVolS.f]; exact (laws_heldVolS.te _ k a0 a1).trans (i2 _ _ _)
theorem laws_heldVolS.con (k : Nat) (a0 : List S53) (a1 : Int) (r) (h : laws_heldVolS.f k a0 a1 = some r) : Contract Try.prog kit 53 [.row 0 .t53 a0, .sc (.int .i64 a1)] [] (laws_heldVolS.e r).1 (laws_heldVolS.e r).2.1 (laws_heldVolS.e r).2.2 :=
  con_okG kitOk mix (fun k => CtxOk.nil) (laws_heldVolS.oke k a0 a1) h (by kernel_rfl) (by kernel_rfl) (by kernel_rfl) rfl (by kernel_rfl) rfl rfl
noncomputable def laws_heldVolS.x (k : Nat) : X := fun ins bs κ => match ins, bs with
  | [.row 0 .t53 a0, .sc (.int .i64 a1)], [] => (laws_heldVolS.f k a0 a1).bind fun r => κ (laws_heldVolS.e r).1 (laws_heldVolS.e r).2.1 (laws_heldVolS.e r).2.2
  | _, _ => none
theorem laws_heldVolS.xok (k : Nat) : XOk 53 (laws_heldVolS.x k) := by
  intro ins bs κ res h
  unfold laws_heldVolS.x at h
  split at h
  · obtain ⟨r, hr, h⟩ := Option.bind_eq_some_iff.1 h
    exact ⟨_, _, _, laws_heldVolS.con k _ _ r hr, h⟩
  · cases h
end Go.Proofs.Yteideicglgpfiaa.M2

/- Plain runs of functions: each is a plain Lean function, and keeps its contract. Written by a program of this session. -/
namespace Go.Proofs.Yteideicglgpfiaa.M2
open Go Go.Proofs.Yteideicglgpfiaa.PK
set_option linter.unusedVariables false
set_option linter.unusedSimpArgs false
set_option maxHeartbeats 4000000
/-! ### laws_heldIntS: function 104 -/
noncomputable def laws_heldIntS.sp : Nat → Option (Spec Ty) := fun r => bif Nat.beq r 2 then some ⟨[(0, .keep), (1, .keep), (5, .keep)], []⟩ else none
noncomputable def laws_heldIntS.en : Option (Spec Ty) := none
noncomputable def laws_heldIntS.s2 (x0 : List Int) (x1 : Int) (x5 : Int) : St Ty D := ⟨(Env.put (Env.put (Env.put E (some 0) (.row 0 .t3 x0)) (some 1) (.sc (.int .i64 x1))) (some 5) (.sc (.int .i64 x5))), H0, 1000⟩
noncomputable def laws_heldIntS.ctx (k : Nat) : Ctx Ty D := (fun _ _ _ _ => none)
noncomputable def laws_heldIntS.c2 : Nat → (List Int) → Int → Int → Option (Int)
  | 0, _, _, _ => none
  | k + 1, x0, x1, x5 => (if x5 < (x0.length : Int) then (if 0 ≤ x5 then (if x5 < (x0.length : Int) then (if (rd_T3 x0 x5) = x1 then (laws_heldIntS.c2 k x0 (w64 (x1 + 1)) (w64 (x5 + 1))) else (some ((-1)))) else none) else none) else (some (x1)))
noncomputable def laws_heldIntS.f (k : Nat) (a0 : List Int) (a1 : Int) : Option (Int) := (laws_heldIntS.c2 k a0 a1 0)
noncomputable def laws_heldIntS.e (r : Int) : Res Ty D := (.sc (.int .i64 r), [], [])
noncomputable abbrev laws_heldIntS.g (rec : List Item → St Ty D → R) (k : Nat) := go1 Try.f104 (laws_heldIntS.ctx k) laws_heldIntS.sp 0 laws_heldIntS.en rec
set_option maxRecDepth 100000 in
theorem laws_heldIntS.t2 (rec : List Item → St Ty D → R) (k : Nat) (x0 : List Int) (x1 : Int) (x5 : Int) : laws_heldIntS.g rec k (td Try.f104 2) (laws_heldIntS.s2 x0 x1 x5) =
  bif decide (x5 < (x0.length : Int)) then bif decide (0 ≤ x5) then bif decide (x5 < (x0.length : Int)) then bif !decide ((rd_T3 x0 x5) = x1) then some (laws_heldIntS.e ((-1))) else rec (td Try.f104 2) (laws_heldIntS.s2 x0 (w64 (x1 + 1)) (w64 (x5 + 1))) else none else none else some (laws_heldIntS.e (x1)) := by kernel_rfl
set_option maxRecDepth 100000 in
theorem laws_heldIntS.te (rec : List Item → St Ty D → R) (k : Nat) (a0 : List Int) (a1 : Int) : laws_heldIntS.g rec k [.code (body Try.f104)] (startSt [.row 0 .t3 a0, .sc (.int .i64 a1)] []) =
  rec (td Try.f104 2) (laws_heldIntS.s2 a0 a1 0) := by kernel_rfl
set_option maxRecDepth 100000 in
theorem laws_heldIntS.ok : ∀ k : Nat, (∀ (x0 : List Int) (x1 : Int) (x5 : Int), goF Try.f104 laws_heldIntS.ctx laws_heldIntS.sp 0 laws_heldIntS.en k (td Try.f104 2) (laws_heldIntS.s2 x0 x1 x5) = (laws_heldIntS.c2 k x0 x1 x5).map laws_heldIntS.e)
  | 0 => fun _ _ _ => rfl
  | k + 1 => by
    have ih := laws_heldIntS.ok k
    have i2 := ih
    intro x0 x1 x5; rw [laws_heldIntS.c2]; exact (laws_heldIntS.t2 _ k x0 x1 x5).trans (cd (cd (cd (nd rfl (i2 _ _ _)) rfl) rfl) rfl)
set_option maxRecDepth 100000 in
theorem laws_heldIntS.oke (k : Nat) (a0 : List Int) (a1 : Int) : goF Try.f104 laws_heldIntS.ctx laws_heldIntS.sp 0 laws_heldIntS.en (k + 1) [.code (body Try.f104)] (startSt [.row 0 .t3 a0, .sc (.int .i64 a1)] []) = (laws_heldIntS.f k a0 a1).map laws_heldIntS.e := by
  have i2 := laws_heldIntS.ok k
  rw [laws_heldIntS.f]; exact (laws_heldIntS.te _ k a0 a1).trans (i2 _ _ _)
theorem laws_heldIntS.con (k : Nat) (a0 : List Int) (a1 : Int) (r) (h : laws_heldIntS.f k a0 a1 = some r) : Contract Try.prog kit 104 [.row 0 .t3 a0, .sc (.int .i64 a1)] [] (laws_heldIntS.e r).1 (laws_heldIntS.e r).2.1 (laws_heldIntS.e r).2.2 :=
  con_okG kitOk mix (fun k => CtxOk.nil) (laws_heldIntS.oke k a0 a1) h (by kernel_rfl) (by kernel_rfl) (by kernel_rfl) rfl (by kernel_rfl) rfl rfl
noncomputable def laws_heldIntS.x (k : Nat) : X := fun ins bs κ => match ins, bs with
  | [.row 0 .t3 a0, .sc (.int .i64 a1)], [] => (laws_heldIntS.f k a0 a1).bind fun r => κ (laws_heldIntS.e r).1 (laws_heldIntS.e r).2.1 (laws_heldIntS.e r).2.2
  | _, _ => none
theorem laws_heldIntS.xok (k : Nat) : XOk 104 (laws_heldIntS.x k) := by
  intro ins bs κ res h
  unfold laws_heldIntS.x at h
  split at h
  · obtain ⟨r, hr, h⟩ := Option.bind_eq_some_iff.1 h
    exact ⟨_, _, _, laws_heldIntS.con k _ _ r hr, h⟩
  · cases h

/-! ### laws_heldKnotS: function 91 -/
noncomputable def laws_heldKnotS.sp : Nat → Option (Spec Ty) := fun r => bif Nat.beq r 2 then some ⟨[(0, .keep), (1, .keep), (5, .keep)], []⟩ else none
noncomputable def laws_heldKnotS.en : Option (Spec Ty) := none
noncomputable def laws_heldKnotS.s2 (x0 : List S88) (x1 : Int) (x5 : Int) : St Ty D := ⟨(Env.put (Env.put (Env.put E (some 0) (.row 0 .t88 x0)) (some 1) (.sc (.int .i64 x1))) (some 5) (.sc (.int .i64 x5))), H0, 1000⟩
noncomputable def laws_heldKnotS.ctx (k : Nat) : Ctx Ty D := (cons 104 (laws_heldIntS.x k) (fun _ _ _ _ => none))
noncomputable def laws_heldKnotS.c2 : Nat → (List S88) → Int → Int → Option (Int)
  | 0, _, _, _ => none
  | k + 1, x0, x1, x5 => (if x5 < (x0.length : Int) then (if 0 ≤ x5 then (if x5 < (x0.length : Int) then (if (((rd_T88 x0 x5).f0) == (decide ((Int.tmod x1 3) = 0))) = true then (if 0 ≤ x5 then (if x5 < (x0.length : Int) then ((laws_heldIntS.f k ((rd_T88 x0 x5).f1) (w64 (x1 + 1))).bind fun t1 => (if t1 < 0 then (some ((-1))) else (laws_heldKnotS.c2 k x0 t1 (w64 (x5 + 1))))) else none) else none) else (some ((-1)))) else none) else none) else (some (x1)))
noncomputable def laws_heldKnotS.f (k : Nat) (a0 : List S88) (a1 : Int) : Option (Int) := (laws_heldKnotS.c2 k a0 a1 0)
noncomputable def laws_heldKnotS.e (r : Int) : Res Ty D := (.sc (.int .i64 r), [], [])
noncomputable abbrev laws_heldKnotS.g (rec : List Item → St Ty D → R) (k : Nat) := go1 Try.f91 (laws_heldKnotS.ctx k) laws_heldKnotS.sp 0 laws_heldKnotS.en rec
set_option maxRecDepth 100000 in
theorem laws_heldKnotS.t2 (rec : List Item → St Ty D → R) (k : Nat) (x0 : List S88) (x1 : Int) (x5 : Int) : laws_heldKnotS.g rec k (td Try.f91 2) (laws_heldKnotS.s2 x0 x1 x5) =
  bif decide (x5 < (x0.length : Int)) then bif decide (0 ≤ x5) then bif decide (x5 < (x0.length : Int)) then bif !(((rd_T88 x0 x5).f0) == (decide ((Int.tmod x1 3) = 0))) then some (laws_heldKnotS.e ((-1))) else bif decide (0 ≤ x5) then bif decide (x5 < (x0.length : Int)) then (laws_heldIntS.f k ((rd_T88 x0 x5).f1) (w64 (x1 + 1))).bind fun t1 => bif decide (t1 < 0) then some (laws_heldKnotS.e ((-1))) else rec (td Try.f91 2) (laws_heldKnotS.s2 x0 t1 (w64 (x5 + 1))) else none else none else none else none else some (laws_heldKnotS.e (x1)) := by kernel_rfl
set_option maxRecDepth 100000 in
theorem laws_heldKnotS.te (rec : List Item → St Ty D → R) (k : Nat) (a0 : List S88) (a1 : Int) : laws_heldKnotS.g rec k [.code (body Try.f91)] (startSt [.row 0 .t88 a0, .sc (.int .i64 a1)] []) =
  rec (td Try.f91 2) (laws_heldKnotS.s2 a0 a1 0) := by kernel_rfl
set_option maxRecDepth 100000 in
theorem laws_heldKnotS.ok : ∀ k : Nat, (∀ (x0 : List S88) (x1 : Int) (x5 : Int), goF Try.f91 laws_heldKnotS.ctx laws_heldKnotS.sp 0 laws_heldKnotS.en k (td Try.f91 2) (laws_heldKnotS.s2 x0 x1 x5) = (laws_heldKnotS.c2 k x0 x1 x5).map laws_heldKnotS.e)
  | 0 => fun _ _ _ => rfl
  | k + 1 => by
    have ih := laws_heldKnotS.ok k
    have i2 := ih
    intro x0 x1 x5; rw [laws_heldKnotS.c2]; exact (laws_heldKnotS.t2 _ k x0 x1 x5).trans (cd (cd (cd (nb rfl (cd (cd (bn (fun t1 => (cd rfl (i2 _ _ _)))) rfl) rfl)) rfl) rfl) rfl)
set_option maxRecDepth 100000 in
theorem laws_heldKnotS.oke (k : Nat) (a0 : List S88) (a1 : Int) : goF Try.f91 laws_heldKnotS.ctx laws_heldKnotS.sp 0 laws_heldKnotS.en (k + 1) [.code (body Try.f91)] (startSt [.row 0 .t88 a0, .sc (.int .i64 a1)] []) = (laws_heldKnotS.f k a0 a1).map laws_heldKnotS.e := by
  have i2 := laws_heldKnotS.ok k
  rw [laws_heldKnotS.f]; exact (laws_heldKnotS.te _ k a0 a1).trans (i2 _ _ _)
theorem laws_heldKnotS.con (k : Nat) (a0 : List S88) (a1 : Int) (r) (h : laws_heldKnotS.f k a0 a1 = some r) : Contract Try.prog kit 91 [.row 0 .t88 a0, .sc (.int .i64 a1)] [] (laws_heldKnotS.e r).1 (laws_heldKnotS.e r).2.1 (laws_heldKnotS.e r).2.2 :=
  con_okG kitOk mix (fun k => (CtxOk.cons (laws_heldIntS.xok k) CtxOk.nil)) (laws_heldKnotS.oke k a0 a1) h (by kernel_rfl) (by kernel_rfl) (by kernel_rfl) rfl (by kernel_rfl) rfl rfl
noncomputable def laws_heldKnotS.x (k : Nat) : X := fun ins bs κ => match ins, bs with
  | [.row 0 .t88 a0, .sc (.int .i64 a1)], [] => (laws_heldKnotS.f k a0 a1).bind fun r => κ (laws_heldKnotS.e r).1 (laws_heldKnotS.e r).2.1 (laws_heldKnotS.e r).2.2
  | _, _ => none
theorem laws_heldKnotS.xok (k : Nat) : XOk 91 (laws_heldKnotS.x k) := by
  intro ins bs κ res h
  unfold laws_heldKnotS.x at h
  split at h
  · obtain ⟨r, hr, h⟩ := Option.bind_eq_some_iff.1 h
    exact ⟨_, _, _, laws_heldKnotS.con k _ _ r hr, h⟩
  · cases h

/-! ### laws_heldArena: function 54 -/
noncomputable def laws_heldArena.sp : Nat → Option (Spec Ty) := fun r => none
noncomputable def laws_heldArena.en : Option (Spec Ty) := none
noncomputable def laws_heldArena.ctx (k : Nat) : Ctx Ty D := (cons 91 (laws_heldKnotS.x k) (fun _ _ _ _ => none))
noncomputable def laws_heldArena.f (k : Nat) (a0_0 : List S88) (a1 : Int) : Option (Int) := ((laws_heldKnotS.f k a0_0 a1).bind fun t1 => (if t1 < 0 then (some ((-1))) else (some (t1))))
noncomputable def laws_heldArena.e (r : Int) : Res Ty D := (.sc (.int .i64 r), [], [])
noncomputable abbrev laws_heldArena.g (rec : List Item → St Ty D → R) (k : Nat) := go1 Try.f54 (laws_heldArena.ctx k) laws_heldArena.sp 0 laws_heldArena.en rec
set_option maxRecDepth 100000 in
theorem laws_heldArena.te (rec : List Item → St Ty D → R) (k : Nat) (a0_0 : List S88) (a1 : Int) : laws_heldArena.g rec k [.code (body Try.f54)] (startSt [.ag [.row 0 .t88 a0_0], .sc (.int .i64 a1)] []) =
  (laws_heldKnotS.f k a0_0 a1).bind fun t1 => bif decide (t1 < 0) then some (laws_heldArena.e ((-1))) else some (laws_heldArena.e (t1)) := by kernel_rfl
set_option maxRecDepth 100000 in
theorem laws_heldArena.oke (k : Nat) (a0_0 : List S88) (a1 : Int) : goF Try.f54 laws_heldArena.ctx laws_heldArena.sp 0 laws_heldArena.en (k + 1) [.code (body Try.f54)] (startSt [.ag [.row 0 .t88 a0_0], .sc (.int .i64 a1)] []) = (laws_heldArena.f k a0_0 a1).map laws_heldArena.e := by
  rw [laws_heldArena.f]; exact (laws_heldArena.te _ k a0_0 a1).trans (bn (fun t1 => (cd rfl rfl)))
theorem laws_heldArena.con (k : Nat) (a0_0 : List S88) (a1 : Int) (r) (h : laws_heldArena.f k a0_0 a1 = some r) : Contract Try.prog kit 54 [.ag [.row 0 .t88 a0_0], .sc (.int .i64 a1)] [] (laws_heldArena.e r).1 (laws_heldArena.e r).2.1 (laws_heldArena.e r).2.2 :=
  con_okG kitOk mix (fun k => (CtxOk.cons (laws_heldKnotS.xok k) CtxOk.nil)) (laws_heldArena.oke k a0_0 a1) h (by kernel_rfl) (by kernel_rfl) (by kernel_rfl) rfl (by kernel_rfl) rfl rfl
noncomputable def laws_heldArena.x (k : Nat) : X := fun ins bs κ => match ins, bs with
  | [.ag [.row 0 .t88 a0_0], .sc (.int .i64 a1)], [] => (laws_heldArena.f k a0_0 a1).bind fun r => κ (laws_heldArena.e r).1 (laws_heldArena.e r).2.1 (laws_heldArena.e r).2.2
  | _, _ => none
theorem laws_heldArena.xok (k : Nat) : XOk 54 (laws_heldArena.x k) := by
  intro ins bs κ res h
  unfold laws_heldArena.x at h
  split at h
  · obtain ⟨r, hr, h⟩ := Option.bind_eq_some_iff.1 h
    exact ⟨_, _, _, laws_heldArena.con k _ _ r hr, h⟩
  · cases h

/-! ### laws_heldStore: function 16 -/
noncomputable def laws_heldStore.sp : Nat → Option (Spec Ty) := fun r => none
noncomputable def laws_heldStore.en : Option (Spec Ty) := none
noncomputable def laws_heldStore.ctx (k : Nat) : Ctx Ty D := (cons 53 (laws_heldVolS.x k) (cons 54 (laws_heldArena.x k) (fun _ _ _ _ => none)))
noncomputable def laws_heldStore.f (k : Nat) (a0_0 : List S53) (a0_1 : List S88) (a0_2 : Int) (a1 : Int) : Option (Int) := ((laws_heldVolS.f k a0_0 a1).bind fun t1 => (if t1 < 0 then (some ((-1))) else ((laws_heldArena.f k a0_1 t1).bind fun t2 => (if t2 < 0 then (some ((-1))) else (some (t2))))))
noncomputable def laws_heldStore.e (r : Int) : Res Ty D := (.sc (.int .i64 r), [], [])
noncomputable abbrev laws_heldStore.g (rec : List Item → St Ty D → R) (k : Nat) := go1 Try.f16 (laws_heldStore.ctx k) laws_heldStore.sp 0 laws_heldStore.en rec
set_option maxRecDepth 100000 in
theorem laws_heldStore.te (rec : List Item → St Ty D → R) (k : Nat) (a0_0 : List S53) (a0_1 : List S88) (a0_2 : Int) (a1 : Int) : laws_heldStore.g rec k [.code (body Try.f16)] (startSt [.ag [.row 0 .t53 a0_0, .row 0 .t88 a0_1, .sc (.int .i64 a0_2)], .sc (.int .i64 a1)] []) =
  (laws_heldVolS.f k a0_0 a1).bind fun t1 => bif decide (t1 < 0) then some (laws_heldStore.e ((-1))) else (laws_heldArena.f k a0_1 t1).bind fun t2 => bif decide (t2 < 0) then some (laws_heldStore.e ((-1))) else some (laws_heldStore.e (t2)) := by kernel_rfl
set_option maxRecDepth 100000 in
theorem laws_heldStore.oke (k : Nat) (a0_0 : List S53) (a0_1 : List S88) (a0_2 : Int) (a1 : Int) : goF Try.f16 laws_heldStore.ctx laws_heldStore.sp 0 laws_heldStore.en (k + 1) [.code (body Try.f16)] (startSt [.ag [.row 0 .t53 a0_0, .row 0 .t88 a0_1, .sc (.int .i64 a0_2)], .sc (.int .i64 a1)] []) = (laws_heldStore.f k a0_0 a0_1 a0_2 a1).map laws_heldStore.e := by
  rw [laws_heldStore.f]; exact (laws_heldStore.te _ k a0_0 a0_1 a0_2 a1).trans (bn (fun t1 => (cd rfl (bn (fun t2 => (cd rfl rfl))))))
theorem laws_heldStore.con (k : Nat) (a0_0 : List S53) (a0_1 : List S88) (a0_2 : Int) (a1 : Int) (r) (h : laws_heldStore.f k a0_0 a0_1 a0_2 a1 = some r) : Contract Try.prog kit 16 [.ag [.row 0 .t53 a0_0, .row 0 .t88 a0_1, .sc (.int .i64 a0_2)], .sc (.int .i64 a1)] [] (laws_heldStore.e r).1 (laws_heldStore.e r).2.1 (laws_heldStore.e r).2.2 :=
  con_okG kitOk mix (fun k => (CtxOk.cons (laws_heldVolS.xok k) (CtxOk.cons (laws_heldArena.xok k) CtxOk.nil))) (laws_heldStore.oke k a0_0 a0_1 a0_2 a1) h (by kernel_rfl) (by kernel_rfl) (by kernel_rfl) rfl (by kernel_rfl) rfl rfl
noncomputable def laws_heldStore.x (k : Nat) : X := fun ins bs κ => match ins, bs with
  | [.ag [.row 0 .t53 a0_0, .row 0 .t88 a0_1, .sc (.int .i64 a0_2)], .sc (.int .i64 a1)], [] => (laws_heldStore.f k a0_0 a0_1 a0_2 a1).bind fun r => κ (laws_heldStore.e r).1 (laws_heldStore.e r).2.1 (laws_heldStore.e r).2.2
  | _, _ => none
theorem laws_heldStore.xok (k : Nat) : XOk 16 (laws_heldStore.x k) := by
  intro ins bs κ res h
  unfold laws_heldStore.x at h
  split at h
  · obtain ⟨r, hr, h⟩ := Option.bind_eq_some_iff.1 h
    exact ⟨_, _, _, laws_heldStore.con k _ _ _ _ r hr, h⟩
  · cases h

/-! ### laws_FnExactEnter: function 3 -/
noncomputable def laws_FnExactEnter.sp : Nat → Option (Spec Ty) := fun r => none
noncomputable def laws_FnExactEnter.en : Option (Spec Ty) := none
noncomputable def laws_FnExactEnter.ctx (k : Nat) : Ctx Ty D := (cons 9 (laws_szStore.x k) (cons 10 (spec_Enter.x k) (cons 11 (laws_toStore.x k) (cons 12 (laws_toRec.x k) (cons 13 (impl_Enter.x k) (cons 14 (laws_eqStore.x k) (cons 15 (laws_markStore.x k) (cons 16 (laws_heldStore.x k) (fun _ _ _ _ => none)))))))))
noncomputable def laws_FnExactEnter.f (k : Nat) (a0_0 : List S96) (a0_1 : List S108) (a0_2 : Int) (a1_0 : Int) (a1_1 : Int) (a1_2 : Int) (a1_3 : Int) : Option (Bool) := ((laws_szStore.f k a0_0 a0_1 a0_2 1048576).bind fun t1 => (if t1 < 0 then (some (true)) else ((laws_toStore.f k a0_0 a0_1 a0_2).bind fun t2 => ((laws_toRec.f k a1_0 a1_1 a1_2 a1_3).bind fun t3 => ((spec_Enter.f k t2.2.2 t3.1 t3.2.1 t3.2.2.1 t3.2.2.2 t2.1 t2.2.1).bind fun t4 => ((laws_toStore.f k a0_0 a0_1 a0_2).bind fun t5 => ((laws_toRec.f k a1_0 a1_1 a1_2 a1_3).bind fun t6 => ((impl_Enter.f k t5.1 t5.2.1 t5.2.2 t6.1 t6.2.1 t6.2.2.1 t6.2.2.2).bind fun t7 => ((laws_eqStore.f k t7.1 t7.2.1 t7.2.2.1 t4.1 t4.2.1 t4.2.2.1).bind fun t8 => (if t8 = true then (if (t7.2.2.2 == t4.2.2.2.1) = true then ((laws_toStore.f k a0_0 a0_1 a0_2).bind fun t9 => ((laws_eqStore.f k t5.1 t5.2.1 t5.2.2 t9.1 t9.2.1 t9.2.2).bind fun t10 => (if t10 = true then ((laws_markStore.f k t5.2.2 1 t5.1 t5.2.1).bind fun t11 => (if t11.1 < 0 then (some (false)) else ((laws_eqStore.f k t7.1 t7.2.1 t7.2.2.1 t4.1 t4.2.1 t4.2.2.1).bind fun t12 => (if t12 = true then (if (t7.2.2.2 == t4.2.2.2.1) = true then ((laws_markStore.f k t7.2.2.1 1 t7.1 t7.2.1).bind fun t13 => ((laws_heldStore.f k t13.2.1 t13.2.2 t7.2.2.1 1).bind fun t14 => (if t14 < 0 then (some (false)) else (if t14 = t13.1 then ((laws_toStore.f k a0_0 a0_1 a0_2).bind fun t15 => ((laws_toRec.f k a1_0 a1_1 a1_2 a1_3).bind fun t16 => ((impl_Enter.f k t15.1 t15.2.1 t15.2.2 t16.1 t16.2.1 t16.2.2.1 t16.2.2.2).bind fun t17 => ((laws_eqStore.f k t17.1 t17.2.1 t17.2.2.1 t4.1 t4.2.1 t4.2.2.1).bind fun t18 => (if t18 = true then (if (t17.2.2.2 == t4.2.2.2.1) = true then ((laws_heldStore.f k t13.2.1 t13.2.2 t7.2.2.1 1).bind fun t19 => (if t19 < 0 then (some (false)) else (if t19 = t13.1 then (some (true)) else (some (false))))) else (some (false))) else (some (false))))))) else (some (false)))))) else (some (false))) else (some (false)))))) else (some (false))))) else (some (false))) else (some (false))))))))))))
noncomputable def laws_FnExactEnter.e (r : Bool) : Res Ty D := (.sc (.bool r), [], [])
noncomputable abbrev laws_FnExactEnter.g (rec : List Item → St Ty D → R) (k : Nat) := go1 Try.f3 (laws_FnExactEnter.ctx k) laws_FnExactEnter.sp 0 laws_FnExactEnter.en rec
set_option maxRecDepth 100000 in
theorem laws_FnExactEnter.te (rec : List Item → St Ty D → R) (k : Nat) (a0_0 : List S96) (a0_1 : List S108) (a0_2 : Int) (a1_0 : Int) (a1_1 : Int) (a1_2 : Int) (a1_3 : Int) : laws_FnExactEnter.g rec k [.code (body Try.f3)] (startSt [.ag [.row 0 .t96 a0_0, .row 0 .t108 a0_1, .sc (.int .i64 a0_2)], .ag [.sc (.int .i64 a1_0), .sc (.int .i64 a1_1), .sc (.int .i64 a1_2), .sc (.int .i64 a1_3)]] []) =
  (laws_szStore.f k a0_0 a0_1 a0_2 1048576).bind fun t1 => bif decide (t1 < 0) then some (laws_FnExactEnter.e (true)) else (laws_toStore.f k a0_0 a0_1 a0_2).bind fun t2 => (laws_toRec.f k a1_0 a1_1 a1_2 a1_3).bind fun t3 => (spec_Enter.f k t2.2.2 t3.1 t3.2.1 t3.2.2.1 t3.2.2.2 t2.1 t2.2.1).bind fun t4 => (laws_toStore.f k a0_0 a0_1 a0_2).bind fun t5 => (laws_toRec.f k a1_0 a1_1 a1_2 a1_3).bind fun t6 => (impl_Enter.f k t5.1 t5.2.1 t5.2.2 t6.1 t6.2.1 t6.2.2.1 t6.2.2.2).bind fun t7 => (laws_eqStore.f k t7.1 t7.2.1 t7.2.2.1 t4.1 t4.2.1 t4.2.2.1).bind fun t8 => bif !t8 then some (laws_FnExactEnter.e (false)) else bif !(t7.2.2.2 == t4.2.2.2.1) then some (laws_FnExactEnter.e (false)) else (laws_toStore.f k a0_0 a0_1 a0_2).bind fun t9 => (laws_eqStore.f k t5.1 t5.2.1 t5.2.2 t9.1 t9.2.1 t9.2.2).bind fun t10 => bif !t10 then some (laws_FnExactEnter.e (false)) else (laws_markStore.f k t5.2.2 1 t5.1 t5.2.1).bind fun t11 => bif decide (t11.1 < 0) then some (laws_FnExactEnter.e (false)) else (laws_eqStore.f k t7.1 t7.2.1 t7.2.2.1 t4.1 t4.2.1 t4.2.2.1).bind fun t12 => bif !t12 then some (laws_FnExactEnter.e (false)) else bif !(t7.2.2.2 == t4.2.2.2.1) then some (laws_FnExactEnter.e (false)) else (laws_markStore.f k t7.2.2.1 1 t7.1 t7.2.1).bind fun t13 => (laws_heldStore.f k t13.2.1 t13.2.2 t7.2.2.1 1).bind fun t14 => bif decide (t14 < 0) then some (laws_FnExactEnter.e (false)) else bif !decide (t14 = t13.1) then some (laws_FnExactEnter.e (false)) else (laws_toStore.f k a0_0 a0_1 a0_2).bind fun t15 => (laws_toRec.f k a1_0 a1_1 a1_2 a1_3).bind fun t16 => (impl_Enter.f k t15.1 t15.2.1 t15.2.2 t16.1 t16.2.1 t16.2.2.1 t16.2.2.2).bind fun t17 => (laws_eqStore.f k t17.1 t17.2.1 t17.2.2.1 t4.1 t4.2.1 t4.2.2.1).bind fun t18 => bif !t18 then some (laws_FnExactEnter.e (false)) else bif !(t17.2.2.2 == t4.2.2.2.1) then some (laws_FnExactEnter.e (false)) else (laws_heldStore.f k t13.2.1 t13.2.2 t7.2.2.1 1).bind fun t19 => bif decide (t19 < 0) then some (laws_FnExactEnter.e (false)) else bif !decide (t19 = t13.1) then some (laws_FnExactEnter.e (false)) else some (laws_FnExactEnter.e (true)) := by kernel_rfl
set_option maxRecDepth 100000 in
theorem laws_FnExactEnter.oke (k : Nat) (a0_0 : List S96) (a0_1 : List S108) (a0_2 : Int) (a1_0 : Int) (a1_1 : Int) (a1_2 : Int) (a1_3 : Int) : goF Try.f3 laws_FnExactEnter.ctx laws_FnExactEnter.sp 0 laws_FnExactEnter.en (k + 1) [.code (body Try.f3)] (startSt [.ag [.row 0 .t96 a0_0, .row 0 .t108 a0_1, .sc (.int .i64 a0_2)], .ag [.sc (.int .i64 a1_0), .sc (.int .i64 a1_1), .sc (.int .i64 a1_2), .sc (.int .i64 a1_3)]] []) = (laws_FnExactEnter.f k a0_0 a0_1 a0_2 a1_0 a1_1 a1_2 a1_3).map laws_FnExactEnter.e := by
  rw [laws_FnExactEnter.f]; exact (laws_FnExactEnter.te _ k a0_0 a0_1 a0_2 a1_0 a1_1 a1_2 a1_3).trans (bn (fun t1 => (cd rfl (bn (fun t2 => (bn (fun t3 => (bn (fun t4 => (bn (fun t5 => (bn (fun t6 => (bn (fun t7 => (bn (fun t8 => (nb rfl (nb rfl (bn (fun t9 => (bn (fun t10 => (nb rfl (bn (fun t11 => (cd rfl (bn (fun t12 => (nb rfl (nb rfl (bn (fun t13 => (bn (fun t14 => (cd rfl (nd rfl (bn (fun t15 => (bn (fun t16 => (bn (fun t17 => (bn (fun t18 => (nb rfl (nb rfl (bn (fun t19 => (cd rfl (nd rfl rfl)))))))))))))))))))))))))))))))))))))))))))))))))))
theorem laws_FnExactEnter.con (k : Nat) (a0_0 : List S96) (a0_1 : List S108) (a0_2 : Int) (a1_0 : Int) (a1_1 : Int) (a1_2 : Int) (a1_3 : Int) (r) (h : laws_FnExactEnter.f k a0_0 a0_1 a0_2 a1_0 a1_1 a1_2 a1_3 = some r) : Contract Try.prog kit 3 [.ag [.row 0 .t96 a0_0, .row 0 .t108 a0_1, .sc (.int .i64 a0_2)], .ag [.sc (.int .i64 a1_0), .sc (.int .i64 a1_1), .sc (.int .i64 a1_2), .sc (.int .i64 a1_3)]] [] (laws_FnExactEnter.e r).1 (laws_FnExactEnter.e r).2.1 (laws_FnExactEnter.e r).2.2 :=
  con_okG kitOk mix (fun k => (CtxOk.cons (laws_szStore.xok k) (CtxOk.cons (spec_Enter.xok k) (CtxOk.cons (laws_toStore.xok k) (CtxOk.cons (laws_toRec.xok k) (CtxOk.cons (impl_Enter.xok k) (CtxOk.cons (laws_eqStore.xok k) (CtxOk.cons (laws_markStore.xok k) (CtxOk.cons (laws_heldStore.xok k) CtxOk.nil))))))))) (laws_FnExactEnter.oke k a0_0 a0_1 a0_2 a1_0 a1_1 a1_2 a1_3) h (by kernel_rfl) (by kernel_rfl) (by kernel_rfl) rfl (by kernel_rfl) rfl rfl
noncomputable def laws_FnExactEnter.x (k : Nat) : X := fun ins bs κ => match ins, bs with
  | [.ag [.row 0 .t96 a0_0, .row 0 .t108 a0_1, .sc (.int .i64 a0_2)], .ag [.sc (.int .i64 a1_0), .sc (.int .i64 a1_1), .sc (.int .i64 a1_2), .sc (.int .i64 a1_3)]], [] => (laws_FnExactEnter.f k a0_0 a0_1 a0_2 a1_0 a1_1 a1_2 a1_3).bind fun r => κ (laws_FnExactEnter.e r).1 (laws_FnExactEnter.e r).2.1 (laws_FnExactEnter.e r).2.2
  | _, _ => none
theorem laws_FnExactEnter.xok (k : Nat) : XOk 3 (laws_FnExactEnter.x k) := by
  intro ins bs κ res h
  unfold laws_FnExactEnter.x at h
  split at h
  · obtain ⟨r, hr, h⟩ := Option.bind_eq_some_iff.1 h
    exact ⟨_, _, _, laws_FnExactEnter.con k _ _ _ _ _ _ _ r hr, h⟩
  · cases h
end Go.Proofs.Yteideicglgpfiaa.M2

/- The print's plain functions. -/
namespace Go.Proofs.Yteideicglgpfiaa.PK
open Go Go.RowKit Go.Proofs.YteideicglgpfiaaW.PrintWords Go.Proofs.YteideicglgpfiaaW.PrintLast Go.Proofs.YteideicglgpfiaaW.PrintMore
set_option linter.unusedVariables false

def laws_szVolS.f (l0 : List (S96)) (a1 : Int) : Option (Int) := if (wrap64 (a1 - (l0.length : Int))) < 0 then (some (-1)) else (some (wrap64 (a1 - (l0.length : Int))))
def laws_szIntS.f (l0 : List Int) (a1 : Int) : Option (Int) := if (wrap64 (a1 - (l0.length : Int))) < 0 then (some (-1)) else (some (wrap64 (a1 - (l0.length : Int))))
def laws_szKnot.f (a0_0 : Bool) (l0_1 : List Int) (a1 : Int) : Option (Int) := (laws_szIntS.f l0_1 a1).bind fun t102 => (if t102 < 0 then (some (-1)) else (some t102))
def laws_szKnotS.l0 : Nat → List (S108) → Int → Int → Option (Int)
  | 0, _, _, _ => none
  | k + 1, x0, x1, x5 => if x5 < (x0.length : Int) then (if 0 ≤ x5 then ((laws_szKnot.f ((rd_T108 x0 x5).f0) ((rd_T108 x0 x5).f1) x1).bind fun t104 => (if t104 < 0 then (some (-1)) else (laws_szKnotS.l0 k x0 t104 (wrap64 (x5 + 1))))) else (none)) else (some x1)
def laws_szKnotS.f (k : Nat) (l0 : List (S108)) (a1 : Int) : Option (Int) := if (wrap64 (a1 - (l0.length : Int))) < 0 then (some (-1)) else (laws_szKnotS.l0 k l0 (wrap64 (a1 - (l0.length : Int))) 0)
def laws_szArena.f (k : Nat) (l0_0 : List (S108)) (a1 : Int) : Option (Int) := (laws_szKnotS.f k l0_0 a1).bind fun t106 => (if t106 < 0 then (some (-1)) else (some t106))
def laws_szStore.f (k : Nat) (l0_0 : List (S96)) (l0_1 : List (S108)) (a0_2 : Int) (a1 : Int) : Option (Int) := (laws_szVolS.f l0_0 a1).bind fun t108 => (if t108 < 0 then (some (-1)) else ((laws_szArena.f k l0_1 t108).bind fun t109 => (if t109 < 0 then (some (-1)) else (some t109))))
def laws_toVol.f (a0_0 : Int) (a0_1 : Int) : Option (Int × Int) := some (a0_0, a0_1)
def laws_toVolS.l0 : Nat → List (S96) → List (S53) → Int → Option ((List (S53)))
  | 0, _, _, _ => none
  | k + 1, x0, x3, x4 => if x4 < (x0.length : Int) then (if 0 ≤ x4 then ((laws_toVol.f ((rd_T96 x0 x4).f0) ((rd_T96 x0 x4).f1)).bind fun bt454 => (if x4 < (x3.length : Int) then (laws_toVolS.l0 k x0 (x3.set (x4 : Int).toNat (⟨bt454.1, bt454.2⟩ : S53)) (wrap64 (x4 + 1))) else (none))) else (none)) else (some x3)
def laws_toVolS.f (k : Nat) (l0 : List (S96)) : Option ((List (S53))) := if 0 ≤ (l0.length : Int) then (if ((l0.length : Int) : Int).toNat ≤ 17592186044416 then (laws_toVolS.l0 k l0 (List.replicate ((l0.length : Int) : Int).toNat z53) 0) else (none)) else (none)
def laws_toIntS.l0 : Nat → List Int → List Int → Int → Option (List Int)
  | 0, _, _, _ => none
  | k + 1, x0, x3, x4 => if x4 < (x0.length : Int) then (if 0 ≤ x4 then (if x4 < (x3.length : Int) then (laws_toIntS.l0 k x0 (x3.set (x4 : Int).toNat (rd x0 x4)) (wrap64 (x4 + 1))) else (none)) else (none)) else (some x3)
def laws_toIntS.f (k : Nat) (l0 : List Int) : Option (List Int) := if 0 ≤ (l0.length : Int) then (if ((l0.length : Int) : Int).toNat ≤ 35184372088832 then (laws_toIntS.l0 k l0 (List.replicate ((l0.length : Int) : Int).toNat 0) 0) else (none)) else (none)
def laws_toKnot.f (k : Nat) (a0_0 : Bool) (l0_1 : List Int) : Option (Bool × List Int) := (laws_toIntS.f k l0_1).bind fun t465 => (some (a0_0, t465))
def laws_toKnotS.l0 : Nat → List (S108) → List (S88) → Int → Option ((List (S88)))
  | 0, _, _, _ => none
  | k + 1, x0, x3, x4 => if x4 < (x0.length : Int) then (if 0 ≤ x4 then ((laws_toKnot.f k ((rd_T108 x0 x4).f0) ((rd_T108 x0 x4).f1)).bind fun bt472 => (if x4 < (x3.length : Int) then (laws_toKnotS.l0 k x0 (x3.set (x4 : Int).toNat (⟨bt472.1, bt472.2⟩ : S88)) (wrap64 (x4 + 1))) else (none))) else (none)) else (some x3)
def laws_toKnotS.f (k : Nat) (l0 : List (S108)) : Option ((List (S88))) := if 0 ≤ (l0.length : Int) then (if ((l0.length : Int) : Int).toNat ≤ 8796093022208 then (laws_toKnotS.l0 k l0 (List.replicate ((l0.length : Int) : Int).toNat z88) 0) else (none)) else (none)
def laws_toArena.f (k : Nat) (l0_0 : List (S108)) : Option ((List (S88))) := (laws_toKnotS.f k l0_0).bind fun t480 => (some t480)
def laws_toStore.f (k : Nat) (l0_0 : List (S96)) (l0_1 : List (S108)) (a0_2 : Int) : Option ((List (S53)) × (List (S88)) × Int) := (laws_toVolS.f k l0_0).bind fun t486 => ((laws_toArena.f k l0_1).bind fun t489 => (some (t486, t489, a0_2)))
def laws_eqVol.f (a0_0 : Int) (a0_1 : Int) (a1_0 : Int) (a1_1 : Int) : Option (Bool) := if a0_0 = a1_0 then (if a0_1 = a1_1 then (some true) else (some false)) else (some false)
def laws_eqVolS.l0 : Nat → List (S53) → List (S53) → Int → Option (Bool)
  | 0, _, _, _ => none
  | k + 1, x0, x1, x5 => if x5 < (x0.length : Int) then (if 0 ≤ x5 then (if x5 < (x1.length : Int) then ((laws_eqVol.f ((rd_T53 x0 x5).f0) ((rd_T53 x0 x5).f1) ((rd_T53 x1 x5).f0) ((rd_T53 x1 x5).f1)).bind fun t724 => (if t724 = true then (laws_eqVolS.l0 k x0 x1 (wrap64 (x5 + 1))) else (some false))) else (none)) else (none)) else (some true)
def laws_eqVolS.f (k : Nat) (l0 : List (S53)) (l1 : List (S53)) : Option (Bool) := if (l0.length : Int) = (l1.length : Int) then (laws_eqVolS.l0 k l0 l1 0) else (some false)
def laws_eqIntS.l0 : Nat → List Int → List Int → Int → Option (Bool)
  | 0, _, _, _ => none
  | k + 1, x0, x1, x5 => if x5 < (x0.length : Int) then (if 0 ≤ x5 then (if x5 < (x1.length : Int) then (if (rd x0 x5) = (rd x1 x5) then (laws_eqIntS.l0 k x0 x1 (wrap64 (x5 + 1))) else (some false)) else (none)) else (none)) else (some true)
def laws_eqIntS.f (k : Nat) (l0 : List Int) (l1 : List Int) : Option (Bool) := if (l0.length : Int) = (l1.length : Int) then (laws_eqIntS.l0 k l0 l1 0) else (some false)
def laws_eqKnot.f (k : Nat) (a0_0 : Bool) (l0_1 : List Int) (a1_0 : Bool) (l1_1 : List Int) : Option (Bool) := if (a0_0 != a1_0) = true then (some false) else ((laws_eqIntS.f k l0_1 l1_1).bind fun t729 => (if t729 = true then (some true) else (some false)))
def laws_eqKnotS.l0 : Nat → List (S88) → List (S88) → Int → Option (Bool)
  | 0, _, _, _ => none
  | k + 1, x0, x1, x5 => if x5 < (x0.length : Int) then (if 0 ≤ x5 then (if x5 < (x1.length : Int) then ((laws_eqKnot.f k ((rd_T88 x0 x5).f0) ((rd_T88 x0 x5).f1) ((rd_T88 x1 x5).f0) ((rd_T88 x1 x5).f1)).bind fun t732 => (if t732 = true then (laws_eqKnotS.l0 k x0 x1 (wrap64 (x5 + 1))) else (some false))) else (none)) else (none)) else (some true)
def laws_eqKnotS.f (k : Nat) (l0 : List (S88)) (l1 : List (S88)) : Option (Bool) := if (l0.length : Int) = (l1.length : Int) then (laws_eqKnotS.l0 k l0 l1 0) else (some false)
def laws_eqArena.f (k : Nat) (l0_0 : List (S88)) (l1_0 : List (S88)) : Option (Bool) := (laws_eqKnotS.f k l0_0 l1_0).bind fun t735 => (if t735 = true then (some true) else (some false))
def laws_eqStore.f (k : Nat) (l0_0 : List (S53)) (l0_1 : List (S88)) (a0_2 : Int) (l1_0 : List (S53)) (l1_1 : List (S88)) (a1_2 : Int) : Option (Bool) := (laws_eqVolS.f k l0_0 l1_0).bind fun t738 => (if t738 = true then ((laws_eqArena.f k l0_1 l1_1).bind fun t739 => (if t739 = true then (if a0_2 = a1_2 then (some true) else (some false)) else (some false))) else (some false))
def spec_l01In.f (a0 : Int) (a1 : Int) (a2 : Int) : Option (Bool) := if a0 ≥ a1 then (some (decide (a0 ≤ a2))) else (some false)
mutual
def spec_ArenaOk.l0 : Nat → Int → List (S88) → Option (Bool)
  | 0, _, _ => none
  | k + 1, x3, x111000 => if x3 < (x111000.length : Int) then (if 0 ≤ x3 then (if (((rd_T88 x111000 x3).f1).length : Int) = 4 then (spec_ArenaOk.l1 k x3 0 x111000 ((rd_T88 x111000 x3).f0) ((rd_T88 x111000 x3).f1)) else (some false)) else (none)) else (some true)
def spec_ArenaOk.l1 : Nat → Int → Int → List (S88) → Bool → List Int → Option (Bool)
  | 0, _, _, _, _, _ => none
  | k + 1, x3, x5, x111000, x113000, x113001 => if x5 < 4 then (if 0 ≤ x5 then (if x5 < (x113001.length : Int) then (if x113000 = true then (if (rd x113001 x5) < 0 then (some false) else (spec_ArenaOk.l1 k x3 (wrap64 (x5 + 1)) x111000 x113000 x113001)) else (if (rd x113001 x5) = (-1) then (spec_ArenaOk.l1 k x3 (wrap64 (x5 + 1)) x111000 x113000 x113001) else ((spec_l01In.f (rd x113001 x5) 0 (wrap64 (x3 - 1))).bind fun t114 => (if t114 = true then (if 0 ≤ (rd x113001 x5) then (if (rd x113001 x5) < (x111000.length : Int) then (if ((rd_T88 x111000 (rd x113001 x5)).f0 = true) then (spec_ArenaOk.l1 k x3 (wrap64 (x5 + 1)) x111000 x113000 x113001) else (some false)) else (none)) else (none)) else (some false))))) else (none)) else (none)) else (spec_ArenaOk.l0 k (wrap64 (x3 + 1)) x111000)
end
def spec_ArenaOk.f (k : Nat) (l0_0 : List (S88)) : Option (Bool) := spec_ArenaOk.l0 k 0 l0_0
def spec_RecOk.j0 : Nat → Bool → Int → Int → Int → Int → Option (Bool)
  | 0, _, _, _, _, _ => none
  | k + 1, x37, x228000, x228001, x228002, x228003 => if x37 = true then (some false) else (if x228000 = 2 then (some (decide (x228002 ≤ 9))) else (if x228000 = 3 then (some (x228002 == 0)) else (if x228000 = 4 then (if x228002 < 16 then ((spec_l01In.f x228003 1 1000000000).bind fun t231 => (some t231)) else (some false)) else (some (decide (x228002 < 16))))))
def spec_RecOk.f (k : Nat) (a0_0 : Int) (a0_1 : Int) (a0_2 : Int) (a0_3 : Int) : Option (Bool) := (spec_l01In.f a0_2 0 1000000000).bind fun t228 => (if t228 = true then (if a0_0 = 1 then (if a0_1 = 0 then (some (a0_3 == 0)) else (some false)) else ((spec_l01In.f a0_0 2 5).bind fun t229 => (if t229 = true then ((spec_l01In.f a0_1 1 9).bind fun t230 => (if t230 = true then (if a0_0 = 4 then (spec_RecOk.j0 k false a0_0 a0_1 a0_2 a0_3) else (spec_RecOk.j0 k (a0_3 != 0) a0_0 a0_1 a0_2 a0_3)) else (spec_RecOk.j0 k true a0_0 a0_1 a0_2 a0_3))) else (spec_RecOk.j0 k true a0_0 a0_1 a0_2 a0_3)))) else (some false))
def spec_l11Copy.l0 : Nat → Int → List (S88) → List (S88) → Option ((List (S88)))
  | 0, _, _, _ => none
  | k + 1, x4, x125000, x127000 => if x4 < (x125000.length : Int) then (if 0 ≤ x4 then ((some (([] : List Int) : List Int)).bind fun y128 => (if y128.length + ((rd_T88 x125000 x4).f1).length < 17592186044416 then (if x127000.length < 4398046511104 then (spec_l11Copy.l0 k (wrap64 (x4 + 1)) x125000 (x127000 ++ [(⟨(rd_T88 x125000 x4).f0, (y128 ++ ((rd_T88 x125000 x4).f1))⟩ : S88)])) else (none)) else (none))) else (none)) else (some x127000)
def spec_l11Copy.f (k : Nat) (l0_0 : List (S88)) : Option ((List (S88))) := spec_l11Copy.l0 k 0 l0_0 ([] : List (S88))
def spec_l11Root.f (l0_0 : List (S88)) (a1 : Int) : Option (Bool) := if a1 = (-1) then (some true) else ((spec_l01In.f a1 0 (wrap64 ((l0_0.length : Int) - 1))).bind fun t117 => (if t117 = true then (if 0 ≤ a1 then (if a1 < (l0_0.length : Int) then (some (!((rd_T88 l0_0 a1).f0))) else (none)) else (none)) else (some false)))
def spec_l11Get.f (l0_0 : List (S88)) (a1 : Int) (a2 : Int) : Option (Int) := if a1 < 0 then (some 0) else (if 0 ≤ a1 then (if a1 < (l0_0.length : Int) then (if 0 ≤ (wrap64 (Int.tdiv a2 4)) then (if (wrap64 (Int.tdiv a2 4)) < (((rd_T88 l0_0 a1).f1).length : Int) then (if (rd ((rd_T88 l0_0 a1).f1) (wrap64 (Int.tdiv a2 4))) < 0 then (some 0) else (if 0 ≤ (rd ((rd_T88 l0_0 a1).f1) (wrap64 (Int.tdiv a2 4))) then (if (rd ((rd_T88 l0_0 a1).f1) (wrap64 (Int.tdiv a2 4))) < (l0_0.length : Int) then (if 0 ≤ (Int.tmod a2 4) then (if (Int.tmod a2 4) < (((rd_T88 l0_0 (rd ((rd_T88 l0_0 a1).f1) (wrap64 (Int.tdiv a2 4)))).f1).length : Int) then (some (rd ((rd_T88 l0_0 (rd ((rd_T88 l0_0 a1).f1) (wrap64 (Int.tdiv a2 4)))).f1) (Int.tmod a2 4))) else (none)) else (none)) else (none)) else (none))) else (none)) else (none)) else (none)) else (none))
def spec_l12At.l0 : Nat → Int → Int → List (S53) → List (S88) → Int → Option (Int)
  | 0, _, _, _, _, _ => none
  | k + 1, x1, x5, x244000, x244001, x244002 => if x5 < (x244000.length : Int) then (if 0 ≤ x5 then (if ((rd_T53 x244000 x5).f0) = x1 then (some x5) else (spec_l12At.l0 k x1 (wrap64 (x5 + 1)) x244000 x244001 x244002)) else (none)) else (some (-1))
def spec_l12At.f (k : Nat) (l0_0 : List (S53)) (l0_1 : List (S88)) (a0_2 : Int) (a1 : Int) : Option (Int) := spec_l12At.l0 k a1 0 l0_0 l0_1 a0_2
def spec_l11Has.l0 : Nat → Int → List Bool → Int → List (S88) → Option (List Bool)
  | 0, _, _, _, _ => none
  | k + 1, x1, x5, x6, x139000 => if x6 < 4 then (if 0 ≤ x1 then (if x1 < (x139000.length : Int) then (if 0 ≤ x6 then (if x6 < (((rd_T88 x139000 x1).f1).length : Int) then (if (rd ((rd_T88 x139000 x1).f1) x6) ≥ 0 then (if 0 ≤ (rd ((rd_T88 x139000 x1).f1) x6) then (if (rd ((rd_T88 x139000 x1).f1) x6) < (x5.length : Int) then (spec_l11Has.l0 k x1 (x5.set ((rd ((rd_T88 x139000 x1).f1) x6) : Int).toNat true) (wrap64 (x6 + 1)) x139000) else (none)) else (none)) else (spec_l11Has.l0 k x1 x5 (wrap64 (x6 + 1)) x139000)) else (none)) else (none)) else (none)) else (none)) else (some x5)
def spec_l11Has.f (k : Nat) (l0_0 : List (S88)) (a1 : Int) : Option (List Bool) := if 0 ≤ (l0_0.length : Int) then (if ((l0_0.length : Int) : Int).toNat ≤ 281474976710656 then ((some (List.replicate ((l0_0.length : Int) : Int).toNat false : List Bool)).bind fun y139 => (if a1 < 0 then (some y139) else (if 0 ≤ a1 then (if a1 < (y139.length : Int) then (spec_l11Has.l0 k a1 (y139.set (a1 : Int).toNat true) 0 l0_0) else (none)) else (none)))) else (none)) else (none)
mutual
def spec_SweepArena.j1 : Nat → List Int → List Int → Bool → List (S88) → Option ((List (S88)) × List Int)
  | 0, _, _, _, _ => none
  | k + 1, x1, x6, x7, x149000 => if x7 = true then (if 0 ≤ (x149000.length : Int) then (if ((x149000.length : Int) : Int).toNat ≤ 281474976710656 then (spec_SweepArena.l1 k x1 x6 (List.replicate ((x149000.length : Int) : Int).toNat false) 0 x149000) else (none)) else (none)) else ((spec_l11Copy.f k x149000).bind fun t159 => (some (t159, x6)))
def spec_SweepArena.l1 : Nat → List Int → List Int → List Bool → Int → List (S88) → Option ((List (S88)) × List Int)
  | 0, _, _, _, _, _ => none
  | k + 1, x1, x6, x9, x10, x149000 => if x10 < (x1.length : Int) then (if 0 ≤ x10 then ((spec_l11Has.f k x149000 (rd x1 x10)).bind fun t166 => (spec_SweepArena.l2 k x1 x6 x9 x10 t166 0 x149000)) else (none)) else (if 0 ≤ (x149000.length : Int) then (if ((x149000.length : Int) : Int).toNat ≤ 35184372088832 then (spec_SweepArena.l3 k x6 x9 (List.replicate ((x149000.length : Int) : Int).toNat 0) 0 x149000 ([] : List (S88))) else (none)) else (none))
def spec_SweepArena.l2 : Nat → List Int → List Int → List Bool → Int → List Bool → Int → List (S88) → Option ((List (S88)) × List Int)
  | 0, _, _, _, _, _, _, _ => none
  | k + 1, x1, x6, x9, x10, x11, x12, x149000 => if x12 < (x11.length : Int) then (if 0 ≤ x12 then (if x12 < (x9.length : Int) then (if rdOf false x9 x12 = true then (spec_SweepArena.l2 k x1 x6 (x9.set (x12 : Int).toNat true) x10 x11 (wrap64 (x12 + 1)) x149000) else (spec_SweepArena.l2 k x1 x6 (x9.set (x12 : Int).toNat (rdOf false x11 x12)) x10 x11 (wrap64 (x12 + 1)) x149000)) else (none)) else (none)) else (spec_SweepArena.l1 k x1 x6 x9 (wrap64 (x10 + 1)) x149000)
def spec_SweepArena.l3 : Nat → List Int → List Bool → List Int → Int → List (S88) → List (S88) → Option ((List (S88)) × List Int)
  | 0, _, _, _, _, _, _ => none
  | k + 1, x6, x9, x13, x15, x149000, x177000 => if x15 < (x149000.length : Int) then (if 0 ≤ x15 then (if x15 < (x9.length : Int) then (if rdOf false x9 x15 = true then ((some (([] : List Int) : List Int)).bind fun y179 => (if y179.length + ((rd_T88 x149000 x15).f1).length < 17592186044416 then (spec_SweepArena.l4 k x6 x9 x13 x15 0 x149000 x177000 ((rd_T88 x149000 x15).f0) (y179 ++ ((rd_T88 x149000 x15).f1))) else (none))) else (spec_SweepArena.l3 k x6 x9 x13 (wrap64 (x15 + 1)) x149000 x177000)) else (none)) else (none)) else (spec_SweepArena.l5 k x6 x13 0 x177000)
def spec_SweepArena.l4 : Nat → List Int → List Bool → List Int → Int → Int → List (S88) → List (S88) → Bool → List Int → Option ((List (S88)) × List Int)
  | 0, _, _, _, _, _, _, _, _, _ => none
  | k + 1, x6, x9, x13, x15, x17, x149000, x177000, x187000, x187001 => if x17 < 4 then (spec_SweepArena.j6 k x6 x9 x13 x15 x17 (!x187000) x149000 x177000 x187000 x187001) else (spec_SweepArena.j6 k x6 x9 x13 x15 x17 false x149000 x177000 x187000 x187001)
def spec_SweepArena.j6 : Nat → List Int → List Bool → List Int → Int → Int → Bool → List (S88) → List (S88) → Bool → List Int → Option ((List (S88)) × List Int)
  | 0, _, _, _, _, _, _, _, _, _, _ => none
  | k + 1, x6, x9, x13, x15, x17, x117, x149000, x177000, x187000, x187001 => if x117 = true then (if 0 ≤ x17 then (if x17 < (x187001.length : Int) then (if (rd x187001 x17) ≥ 0 then (if 0 ≤ (rd x187001 x17) then (if (rd x187001 x17) < (x13.length : Int) then (spec_SweepArena.l4 k x6 x9 x13 x15 (wrap64 (x17 + 1)) x149000 x177000 x187000 (x187001.set (x17 : Int).toNat (rd x13 (rd x187001 x17)))) else (none)) else (none)) else (spec_SweepArena.l4 k x6 x9 x13 x15 (wrap64 (x17 + 1)) x149000 x177000 x187000 x187001)) else (none)) else (none)) else (if 0 ≤ x15 then (if x15 < (x13.length : Int) then (if x177000.length < 4398046511104 then (spec_SweepArena.l3 k x6 x9 (x13.set (x15 : Int).toNat (x177000.length : Int)) (wrap64 (x15 + 1)) x149000 (x177000 ++ [(⟨x187000, x187001⟩ : S88)])) else (none)) else (none)) else (none))
def spec_SweepArena.l5 : Nat → List Int → List Int → Int → List (S88) → Option ((List (S88)) × List Int)
  | 0, _, _, _, _ => none
  | k + 1, x6, x13, x18, x177000 => if x18 < (x6.length : Int) then (if 0 ≤ x18 then (if (rd x6 x18) ≥ 0 then (if 0 ≤ (rd x6 x18) then (if (rd x6 x18) < (x13.length : Int) then (spec_SweepArena.l5 k (x6.set (x18 : Int).toNat (rd x13 (rd x6 x18))) x13 (wrap64 (x18 + 1)) x177000) else (none)) else (none)) else (spec_SweepArena.l5 k x6 x13 (wrap64 (x18 + 1)) x177000)) else (none)) else (some (x177000, x6))
def spec_SweepArena.l0 : Nat → List Int → List Int → Bool → Int → List (S88) → Option ((List (S88)) × List Int)
  | 0, _, _, _, _, _ => none
  | k + 1, x1, x6, x7, x8, x149000 => if x8 < (x1.length : Int) then (if x7 = true then (if 0 ≤ x8 then ((spec_l11Root.f x149000 (rd x1 x8)).bind fun t158 => (spec_SweepArena.l0 k x1 x6 t158 (wrap64 (x8 + 1)) x149000)) else (none)) else (spec_SweepArena.j1 k x1 x6 x7 x149000)) else (spec_SweepArena.j1 k x1 x6 x7 x149000)
end
def spec_SweepArena.f (k : Nat) (l0_0 : List (S88)) (l1 : List Int) : Option ((List (S88)) × List Int) := (some (([] : List Int) : List Int)).bind fun y150 => (if y150.length + l1.length < 17592186044416 then ((spec_ArenaOk.f k l0_0).bind fun t156 => (spec_SweepArena.l0 k l1 (y150 ++ l1) t156 0 l0_0)) else (none))
def spec_l12Roots.l0 : Nat → List Int → Int → List (S53) → List (S88) → Int → Option (List Int)
  | 0, _, _, _, _, _ => none
  | k + 1, x3, x4, x200000, x200001, x200002 => if x4 < (x200000.length : Int) then (if 0 ≤ x4 then (if x3.length < 17592186044416 then (spec_l12Roots.l0 k (x3 ++ [(rd_T53 x200000 x4).f1]) (wrap64 (x4 + 1)) x200000 x200001 x200002) else (none)) else (none)) else (some x3)
def spec_l12Roots.f (k : Nat) (l0_0 : List (S53)) (l0_1 : List (S88)) (a0_2 : Int) : Option (List Int) := spec_l12Roots.l0 k (([] : List Int)) 0 l0_0 l0_1 a0_2
def impl_volAt.l0 : Nat → Int → List (S53) → Int → Int → Option (Int)
  | 0, _, _, _, _ => none
  | k + 1, x1, x8, x9, x10 => if x10 < x9 then (if 0 ≤ x10 then (if x10 < (x8.length : Int) then (if ((rd_T53 x8 x10).f0) = x1 then (some x10) else (impl_volAt.l0 k x1 x8 x9 (wrap64 (x10 + 1)))) else (none)) else (none)) else (some (-1))
def impl_volAt.f (k : Nat) (l0_0 : List (S53)) (l0_1 : List (S88)) (a0_2 : Int) (a1 : Int) : Option (Int) := impl_volAt.l0 k a1 l0_0 (l0_0.length : Int) 0
def impl_in.f (a0 : Int) (a1 : Int) (a2 : Int) : Option (Bool) := if a0 ≥ a1 then (some (decide (a0 ≤ a2))) else (some false)
def impl_RecOk.j0 : Nat → Bool → Int → Int → Int → Int → Option (Bool)
  | 0, _, _, _, _, _ => none
  | k + 1, x32, x577000, x577001, x577002, x577003 => if x32 = true then (some false) else (if x577000 = 2 then ((impl_in.f x577002 0 9).bind fun t579 => (some t579)) else (if x577000 = 3 then (some (x577002 == 0)) else (if x577000 = 4 then ((impl_in.f x577002 0 15).bind fun t580 => (if t580 = true then ((impl_in.f x577003 1 1000000000).bind fun t581 => (some t581)) else (some false))) else (if x577000 = 5 then ((impl_in.f x577002 0 15).bind fun t582 => (some t582)) else (some false)))))
def impl_RecOk.f (k : Nat) (a0_0 : Int) (a0_1 : Int) (a0_2 : Int) (a0_3 : Int) : Option (Bool) := if a0_0 = 1 then (if a0_1 = 0 then ((impl_in.f a0_2 0 1000000000).bind fun t577 => (if t577 = true then (some (a0_3 == 0)) else (some false))) else (some false)) else ((impl_in.f a0_1 1 9).bind fun t578 => (if t578 = true then (if a0_0 = 4 then (impl_RecOk.j0 k false a0_0 a0_1 a0_2 a0_3) else (impl_RecOk.j0 k (a0_3 != 0) a0_0 a0_1 a0_2 a0_3)) else (impl_RecOk.j0 k true a0_0 a0_1 a0_2 a0_3)))
mutual
def impl_ArenaOk.l0 : Nat → List (S88) → Int → Int → List (S88) → Option (Bool)
  | 0, _, _, _, _ => none
  | k + 1, x8, x9, x10, x496000 => if x10 < x9 then (if 0 ≤ x10 then (if x10 < (x8.length : Int) then (if (((rd_T88 x8 x10).f1).length : Int) = 4 then (impl_ArenaOk.l1 k x10 x8 x9 x10 ((rd_T88 x8 x10).f1) (((rd_T88 x8 x10).f1).length : Int) 0 x496000 ((rd_T88 x8 x10).f0) ((rd_T88 x8 x10).f1)) else (some false)) else (none)) else (none)) else (some true)
def impl_ArenaOk.l1 : Nat → Int → List (S88) → Int → Int → List Int → Int → Int → List (S88) → Bool → List Int → Option (Bool)
  | 0, _, _, _, _, _, _, _, _, _, _ => none
  | k + 1, x3, x8, x9, x10, x20, x21, x22, x496000, x498000, x498001 => if x22 < x21 then (if 0 ≤ x22 then (if x22 < (x20.length : Int) then (if x498000 = true then (if (rd x20 x22) < 0 then (some false) else (impl_ArenaOk.l1 k x3 x8 x9 x10 x20 x21 (wrap64 (x22 + 1)) x496000 x498000 x498001)) else (if (rd x20 x22) = (-1) then (impl_ArenaOk.l1 k x3 x8 x9 x10 x20 x21 (wrap64 (x22 + 1)) x496000 x498000 x498001) else ((impl_in.f (rd x20 x22) 0 (wrap64 (x3 - 1))).bind fun t499 => (if t499 = true then (if 0 ≤ (rd x20 x22) then (if (rd x20 x22) < (x496000.length : Int) then (if ((rd_T88 x496000 (rd x20 x22)).f0 = true) then (impl_ArenaOk.l1 k x3 x8 x9 x10 x20 x21 (wrap64 (x22 + 1)) x496000 x498000 x498001) else (some false)) else (none)) else (none)) else (some false))))) else (none)) else (none)) else (impl_ArenaOk.l0 k x8 x9 (wrap64 (x10 + 1)) x496000)
end
def impl_ArenaOk.f (k : Nat) (l0_0 : List (S88)) : Option (Bool) := impl_ArenaOk.l0 k l0_0 (l0_0.length : Int) 0 l0_0
def impl_hasInt.l0 : Nat → Int → List Int → Int → Int → Option (Bool)
  | 0, _, _, _, _ => none
  | k + 1, x1, x7, x8, x9 => if x9 < x8 then (if 0 ≤ x9 then (if x9 < (x7.length : Int) then (if (rd x7 x9) = x1 then (some true) else (impl_hasInt.l0 k x1 x7 x8 (wrap64 (x9 + 1)))) else (none)) else (none)) else (some false)
def impl_hasInt.f (k : Nat) (l0 : List Int) (a1 : Int) : Option (Bool) := impl_hasInt.l0 k a1 l0 (l0.length : Int) 0
def impl_isRoot.f (l0_0 : List (S88)) (a1 : Int) : Option (Bool) := (impl_in.f a1 0 (wrap64 ((l0_0.length : Int) - 1))).bind fun t502 => (if t502 = true then (if 0 ≤ a1 then (if a1 < (l0_0.length : Int) then (some (!((rd_T88 l0_0 a1).f0))) else (none)) else (none)) else (some false))
def impl_knotsOf.l0 : Nat → List Int → List Int → Int → Int → List (S88) → Option (List Int)
  | 0, _, _, _, _, _ => none
  | k + 1, x5, x19, x20, x21, x506000 => if x21 < x20 then (if 0 ≤ x21 then (if x21 < (x19.length : Int) then ((impl_in.f (rd x19 x21) 0 (wrap64 ((x506000.length : Int) - 1))).bind fun t512 => (if t512 = true then ((impl_hasInt.f k x5 (rd x19 x21)).bind fun t513 => (if t513 = true then (impl_knotsOf.l0 k x5 x19 x20 (wrap64 (x21 + 1)) x506000) else (if x5.length < 17592186044416 then (impl_knotsOf.l0 k (x5 ++ [rd x19 x21]) x19 x20 (wrap64 (x21 + 1)) x506000) else (none)))) else (impl_knotsOf.l0 k x5 x19 x20 (wrap64 (x21 + 1)) x506000))) else (none)) else (none)) else (some x5)
def impl_knotsOf.f (k : Nat) (l0_0 : List (S88)) (a1 : Int) : Option (List Int) := (impl_isRoot.f l0_0 a1).bind fun t506 => (if t506 = true then (if 0 ≤ a1 then (if a1 < (l0_0.length : Int) then (impl_knotsOf.l0 k (([a1] : List Int)) ((rd_T88 l0_0 a1).f1) (((rd_T88 l0_0 a1).f1).length : Int) 0 l0_0) else (none)) else (none)) else (some ([] : List Int)))
mutual
def impl_StoreOk.j0 : Nat → Bool → List (S53) → List (S88) → Int → Option (Bool)
  | 0, _, _, _, _ => none
  | k + 1, x25, x518000, x518001, x518002 => if x25 = true then (some false) else (impl_StoreOk.l0 k ([] : List Int) x518000 (x518000.length : Int) 0 x518000 x518001 x518002)
def impl_StoreOk.l0 : Nat → List Int → List (S53) → Int → Int → List (S53) → List (S88) → Int → Option (Bool)
  | 0, _, _, _, _, _, _, _ => none
  | k + 1, x3, x27, x28, x29, x518000, x518001, x518002 => if x29 < x28 then (if 0 ≤ x29 then (if x29 < (x27.length : Int) then ((impl_in.f ((rd_T53 x27 x29).f0) 1 9).bind fun t522 => (if t522 = true then (if x29 > 0 then (if 0 ≤ (wrap64 (x29 - 1)) then (if (wrap64 (x29 - 1)) < (x518000.length : Int) then (if ((rd_T53 x518000 (wrap64 (x29 - 1))).f0) ≥ ((rd_T53 x27 x29).f0) then (some false) else (if ((rd_T53 x27 x29).f1) = (-1) then ((impl_knotsOf.f k x518001 ((rd_T53 x27 x29).f1)).bind fun t524 => (if x3.length + t524.length < 17592186044416 then (impl_StoreOk.l0 k (x3 ++ t524) x27 x28 (wrap64 (x29 + 1)) x518000 x518001 x518002) else (none))) else ((impl_isRoot.f x518001 ((rd_T53 x27 x29).f1)).bind fun t530 => (if t530 = true then ((impl_knotsOf.f k x518001 ((rd_T53 x27 x29).f1)).bind fun t531 => (if x3.length + t531.length < 17592186044416 then (impl_StoreOk.l0 k (x3 ++ t531) x27 x28 (wrap64 (x29 + 1)) x518000 x518001 x518002) else (none))) else (some false))))) else (none)) else (none)) else (if ((rd_T53 x27 x29).f1) = (-1) then ((impl_knotsOf.f k x518001 ((rd_T53 x27 x29).f1)).bind fun t537 => (if x3.length + t537.length < 17592186044416 then (impl_StoreOk.l0 k (x3 ++ t537) x27 x28 (wrap64 (x29 + 1)) x518000 x518001 x518002) else (none))) else ((impl_isRoot.f x518001 ((rd_T53 x27 x29).f1)).bind fun t543 => (if t543 = true then ((impl_knotsOf.f k x518001 ((rd_T53 x27 x29).f1)).bind fun t544 => (if x3.length + t544.length < 17592186044416 then (impl_StoreOk.l0 k (x3 ++ t544) x27 x28 (wrap64 (x29 + 1)) x518000 x518001 x518002) else (none))) else (some false))))) else (some false))) else (none)) else (none)) else (impl_StoreOk.l1 k x3 x518001 (x518001.length : Int) 0 x518000 x518001 x518002)
def impl_StoreOk.l1 : Nat → List Int → List (S88) → Int → Int → List (S53) → List (S88) → Int → Option (Bool)
  | 0, _, _, _, _, _, _, _ => none
  | k + 1, x3, x77, x78, x79, x518000, x518001, x518002 => if x79 < x78 then (if 0 ≤ x79 then (if x79 < (x77.length : Int) then ((impl_hasInt.f k x3 x79).bind fun t552 => (if t552 = true then (impl_StoreOk.l2 k x3 x77 x78 x79 ((rd_T88 x77 x79).f1) (((rd_T88 x77 x79).f1).length : Int) 0 x518000 x518001 x518002 ((rd_T88 x77 x79).f0) ((rd_T88 x77 x79).f1)) else (some false))) else (none)) else (none)) else (some true)
def impl_StoreOk.l2 : Nat → List Int → List (S88) → Int → Int → List Int → Int → Int → List (S53) → List (S88) → Int → Bool → List Int → Option (Bool)
  | 0, _, _, _, _, _, _, _, _, _, _, _, _ => none
  | k + 1, x3, x77, x78, x79, x89, x90, x91, x518000, x518001, x518002, x552000, x552001 => if x91 < x90 then (if 0 ≤ x91 then (if x91 < (x89.length : Int) then (if x552000 = true then (if (rd x89 x91) ≥ x518002 then (some false) else (impl_StoreOk.l2 k x3 x77 x78 x79 x89 x90 (wrap64 (x91 + 1)) x518000 x518001 x518002 x552000 x552001)) else (impl_StoreOk.l2 k x3 x77 x78 x79 x89 x90 (wrap64 (x91 + 1)) x518000 x518001 x518002 x552000 x552001)) else (none)) else (none)) else (impl_StoreOk.l1 k x3 x77 x78 (wrap64 (x79 + 1)) x518000 x518001 x518002)
end
def impl_StoreOk.f (k : Nat) (l0_0 : List (S53)) (l0_1 : List (S88)) (a0_2 : Int) : Option (Bool) := if (l0_0.length : Int) > 3 then (impl_StoreOk.j0 k true l0_0 l0_1 a0_2) else ((impl_ArenaOk.f k l0_1).bind fun t518 => (if t518 = true then ((impl_in.f a0_2 1 1000000000).bind fun t519 => (impl_StoreOk.j0 k (!t519) l0_0 l0_1 a0_2)) else (impl_StoreOk.j0 k true l0_0 l0_1 a0_2)))
def impl_copyInts.f (l0 : List Int) : Option (List Int) := if ([] : List Int).length + l0.length < 17592186044416 then (some (([] : List Int) ++ l0)) else (none)
def impl_copyArena.l0 : Nat → List (S88) → Int → Int → List (S88) → Option ((List (S88)))
  | 0, _, _, _, _ => none
  | k + 1, x7, x8, x9, x560000 => if x9 < x8 then (if 0 ≤ x9 then (if x9 < (x7.length : Int) then ((impl_copyInts.f ((rd_T88 x7 x9).f1)).bind fun t562 => (if x560000.length < 4398046511104 then (impl_copyArena.l0 k x7 x8 (wrap64 (x9 + 1)) (x560000 ++ [(⟨(rd_T88 x7 x9).f0, t562⟩ : S88)])) else (none))) else (none)) else (none)) else (some x560000)
def impl_copyArena.f (k : Nat) (l0_0 : List (S88)) : Option ((List (S88))) := impl_copyArena.l0 k l0_0 (l0_0.length : Int) 0 ([] : List (S88))
mutual
def impl_SweepArena.l0 : Nat → List Int → List Int → List Int → List Int → Int → Int → List (S88) → Option ((List (S88)) × List Int)
  | 0, _, _, _, _, _, _, _ => none
  | k + 1, x1, x6, x7, x21, x22, x23, x655000 => if x23 < x22 then (if 0 ≤ x23 then (if x23 < (x21.length : Int) then (if (rd x21 x23) = (-1) then (impl_SweepArena.j1 k x1 x6 x7 (rd x21 x23) x21 x22 x23 false x655000) else ((impl_isRoot.f x655000 (rd x21 x23)).bind fun t660 => (impl_SweepArena.j1 k x1 x6 x7 (rd x21 x23) x21 x22 x23 (!t660) x655000))) else (none)) else (none)) else ((impl_ArenaOk.f k x655000).bind fun t670 => (if t670 = true then (if 0 ≤ (x655000.length : Int) then (if ((x655000.length : Int) : Int).toNat ≤ 35184372088832 then (impl_SweepArena.l1 k x1 x6 x7 (List.replicate ((x655000.length : Int) : Int).toNat 0) x655000 (x655000.length : Int) 0 ([] : List (S88))) else (none)) else (none)) else ((impl_copyArena.f k x655000).bind fun t671 => (some (t671, x6)))))
def impl_SweepArena.j1 : Nat → List Int → List Int → List Int → Int → List Int → Int → Int → Bool → List (S88) → Option ((List (S88)) × List Int)
  | 0, _, _, _, _, _, _, _, _, _ => none
  | k + 1, x1, x6, x7, x9, x21, x22, x23, x34, x655000 => if x34 = true then ((impl_copyArena.f k x655000).bind fun t661 => (some (t661, x6))) else ((impl_knotsOf.f k x655000 x9).bind fun t664 => (if x7.length + t664.length < 17592186044416 then (impl_SweepArena.l0 k x1 x6 (x7 ++ t664) x21 x22 (wrap64 (x23 + 1)) x655000) else (none)))
def impl_SweepArena.l1 : Nat → List Int → List Int → List Int → List Int → List (S88) → Int → Int → List (S88) → Option ((List (S88)) × List Int)
  | 0, _, _, _, _, _, _, _, _ => none
  | k + 1, x1, x6, x7, x11, x55, x56, x57, x675000 => if x57 < x56 then (if 0 ≤ x57 then (if x57 < (x55.length : Int) then ((impl_hasInt.f k x7 x57).bind fun t680 => (if t680 = true then (if x57 < (x11.length : Int) then ((impl_copyInts.f ((rd_T88 x55 x57).f1)).bind fun t682 => (impl_SweepArena.l2 k x1 x6 x7 (x11.set (x57 : Int).toNat (x675000.length : Int)) x55 x56 x57 ((rd_T88 x55 x57).f1) (((rd_T88 x55 x57).f1).length : Int) 0 x675000 ((rd_T88 x55 x57).f0) ((rd_T88 x55 x57).f1) ((rd_T88 x55 x57).f0) t682)) else (none)) else (impl_SweepArena.l1 k x1 x6 x7 x11 x55 x56 (wrap64 (x57 + 1)) x675000))) else (none)) else (none)) else (impl_SweepArena.l3 k x6 x11 x1 (x1.length : Int) 0 x675000)
def impl_SweepArena.l2 : Nat → List Int → List Int → List Int → List Int → List (S88) → Int → Int → List Int → Int → Int → List (S88) → Bool → List Int → Bool → List Int → Option ((List (S88)) × List Int)
  | 0, _, _, _, _, _, _, _, _, _, _, _, _, _, _, _ => none
  | k + 1, x1, x6, x7, x11, x55, x56, x57, x79, x80, x81, x675000, x680000, x680001, x686000, x686001 => if x81 < x80 then (if 0 ≤ x81 then (if x81 < (x79.length : Int) then (if x680000 = true then (impl_SweepArena.l2 k x1 x6 x7 x11 x55 x56 x57 x79 x80 (wrap64 (x81 + 1)) x675000 x680000 x680001 x686000 x686001) else (if (rd x79 x81) ≥ 0 then (if 0 ≤ (rd x79 x81) then (if (rd x79 x81) < (x11.length : Int) then (if x81 < (x686001.length : Int) then (impl_SweepArena.l2 k x1 x6 x7 x11 x55 x56 x57 x79 x80 (wrap64 (x81 + 1)) x675000 x680000 x680001 x686000 (x686001.set (x81 : Int).toNat (rd x11 (rd x79 x81)))) else (none)) else (none)) else (none)) else (impl_SweepArena.l2 k x1 x6 x7 x11 x55 x56 x57 x79 x80 (wrap64 (x81 + 1)) x675000 x680000 x680001 x686000 x686001))) else (none)) else (none)) else (if x675000.length < 4398046511104 then (impl_SweepArena.l1 k x1 x6 x7 x11 x55 x56 (wrap64 (x57 + 1)) (x675000 ++ [(⟨x686000, x686001⟩ : S88)])) else (none))
def impl_SweepArena.l3 : Nat → List Int → List Int → List Int → Int → Int → List (S88) → Option ((List (S88)) × List Int)
  | 0, _, _, _, _, _, _ => none
  | k + 1, x6, x11, x109, x110, x111, x675000 => if x111 < x110 then (if 0 ≤ x111 then (if x111 < (x109.length : Int) then (if (rd x109 x111) ≥ 0 then (if 0 ≤ (rd x109 x111) then (if (rd x109 x111) < (x11.length : Int) then (if x111 < (x6.length : Int) then (impl_SweepArena.l3 k (x6.set (x111 : Int).toNat (rd x11 (rd x109 x111))) x11 x109 x110 (wrap64 (x111 + 1)) x675000) else (none)) else (none)) else (none)) else (impl_SweepArena.l3 k x6 x11 x109 x110 (wrap64 (x111 + 1)) x675000)) else (none)) else (none)) else (some (x675000, x6))
end
def impl_SweepArena.f (k : Nat) (l0_0 : List (S88)) (l1 : List Int) : Option ((List (S88)) × List Int) := (impl_copyInts.f l1).bind fun t656 => (impl_SweepArena.l0 k l1 t656 ([] : List Int) l1 (l1.length : Int) 0 l0_0)
def impl_numberAt.f (l0_0 : List (S88)) (a1 : Int) (a2 : Int) : Option (Int) := if 0 ≤ a1 then (if a1 < (l0_0.length : Int) then (if 0 ≤ (wrap64 (Int.tdiv a2 4)) then (if (wrap64 (Int.tdiv a2 4)) < (((rd_T88 l0_0 a1).f1).length : Int) then (if (rd ((rd_T88 l0_0 a1).f1) (wrap64 (Int.tdiv a2 4))) < 0 then (some 0) else (if 0 ≤ (rd ((rd_T88 l0_0 a1).f1) (wrap64 (Int.tdiv a2 4))) then (if (rd ((rd_T88 l0_0 a1).f1) (wrap64 (Int.tdiv a2 4))) < (l0_0.length : Int) then (if 0 ≤ (Int.tmod a2 4) then (if (Int.tmod a2 4) < (((rd_T88 l0_0 (rd ((rd_T88 l0_0 a1).f1) (wrap64 (Int.tdiv a2 4)))).f1).length : Int) then (some (rd ((rd_T88 l0_0 (rd ((rd_T88 l0_0 a1).f1) (wrap64 (Int.tdiv a2 4)))).f1) (Int.tmod a2 4))) else (none)) else (none)) else (none)) else (none))) else (none)) else (none)) else (none)) else (none)
end Go.Proofs.Yteideicglgpfiaa.PK

/- From the print's plain functions to the own ones: small words. -/
namespace Go.Proofs.Yteideicglgpfiaa.M2
open Go Go.RowKit Go.Proofs.YteideicglgpfiaaW.PrintWords Go.Proofs.Yteideicglgpfiaa.PK
theorem w64_eq (n : Int) : w64 n = wrap64 n := IntWalk.i64_left n
theorem wu8_eq (n : Int) : Go.IntKind.wrap .u8 n = n % 256 := by simp [IntKind.wrap, IntKind.signed, IntKind.bits]
theorem int_beq (a b : Int) : (a == b) = decide (a = b) := rfl
theorem emp_eq : (⟨#[]⟩ : ByteArray).toList = [] := by kernel_rfl
theorem itE {α : Type} {c : Prop} [Decidable c] {a b : Option α} {r : α} {G : Prop} (h : (if c then a else b) = some r) (x : c → a = some r → G) (y : ¬ c → b = some r → G) : G := by
  by_cases hc : c
  · rw [if_pos hc] at h; exact x hc h
  · rw [if_neg hc] at h; exact y hc h
theorem bnE {α β : Type} {o : Option α} {f : α → Option β} {r : β} {G : Prop} (h : o.bind f = some r) (x : ∀ t, o = some t → f t = some r → G) : G := by
  obtain ⟨t, h1, h2⟩ := Option.bind_eq_some_iff.1 h; exact x t h1 h2
theorem bsE {α β : Type} {a : α} {f : α → Option β} {r : β} {G : Prop} (h : (some a).bind f = some r) (x : f a = some r → G) : G := x h
theorem noE {α : Type} {r : α} {G : Prop} (h : none = some r) : G := by cases h
theorem ite_inv {α : Type} {c : Prop} [Decidable c] {a b : Option α} {r : α} (h : (if c then a else b) = some r) : (c ∧ a = some r) ∨ (¬ c ∧ b = some r) := by
  by_cases hc : c
  · rw [if_pos hc] at h; exact .inl ⟨hc, h⟩
  · rw [if_neg hc] at h; exact .inr ⟨hc, h⟩
theorem fdiv33 (a : Int) : Int.fdiv a 8589934592 = a / 8589934592 := Int.fdiv_eq_ediv_of_nonneg a (by decide)
theorem fdiv45 (a : Int) : Int.fdiv a 35184372088832 = a / 35184372088832 := Int.fdiv_eq_ediv_of_nonneg a (by decide)
theorem shlR (x y : Int) : w64 (x * 2 ^ (min y.toNat 64)) = Go.Proofs.YteideicglgpfiaaW.PrintWords.shl .i64 x y := rfl
theorem bt_eq (s : ByteArray) (i : Int) : bt s i = Go.Proofs.YteideicglgpfiaaW.PrintWords.bt s i := rfl
theorem tmodN (n : Nat) (k : Int) : Int.tmod (n : Int) k = (n : Int) % k := Int.tmod_eq_emod_of_nonneg (Int.natCast_nonneg n)
theorem rdOfB (a b : Int) : (a - b < 0) = (a < b) := by simp only [eq_iff_iff]; omega
theorem rdOfL (l : List Bool) (i : Int) : rdOf false l i = rd_T4 l i := rfl
theorem rdT3_eq (l : List Int) (i : Int) : rd_T3 l i = rd l i := rfl
theorem rdn3 (l : List Int) (i : Int) : rd_T3 l ((i.toNat : Nat) : Int) = rd_T3 l i := rfl
theorem rdset3 (l : List Int) (i : Int) (y : Int) (h : i < (l.length : Int)) (h0 : 0 ≤ i) : rd_T3 (l.set i.toNat y) i = y := by
  unfold rd_T3; rw [List.getD_eq_getElem?_getD, List.getElem?_set_self (by omega)]; rfl
theorem rdn96 (l : List S96) (i : Int) : rd_T96 l ((i.toNat : Nat) : Int) = rd_T96 l i := rfl
theorem rdset96 (l : List S96) (i : Int) (y : S96) (h : i < (l.length : Int)) (h0 : 0 ≤ i) : rd_T96 (l.set i.toNat y) i = y := by
  unfold rd_T96; rw [List.getD_eq_getElem?_getD, List.getElem?_set_self (by omega)]; rfl
theorem rdn108 (l : List S108) (i : Int) : rd_T108 l ((i.toNat : Nat) : Int) = rd_T108 l i := rfl
theorem rdset108 (l : List S108) (i : Int) (y : S108) (h : i < (l.length : Int)) (h0 : 0 ≤ i) : rd_T108 (l.set i.toNat y) i = y := by
  unfold rd_T108; rw [List.getD_eq_getElem?_getD, List.getElem?_set_self (by omega)]; rfl
theorem rdn88 (l : List S88) (i : Int) : rd_T88 l ((i.toNat : Nat) : Int) = rd_T88 l i := rfl
theorem rdset88 (l : List S88) (i : Int) (y : S88) (h : i < (l.length : Int)) (h0 : 0 ≤ i) : rd_T88 (l.set i.toNat y) i = y := by
  unfold rd_T88; rw [List.getD_eq_getElem?_getD, List.getElem?_set_self (by omega)]; rfl
theorem rdn4 (l : List Bool) (i : Int) : rd_T4 l ((i.toNat : Nat) : Int) = rd_T4 l i := rfl
theorem rdset4 (l : List Bool) (i : Int) (y : Bool) (h : i < (l.length : Int)) (h0 : 0 ≤ i) : rd_T4 (l.set i.toNat y) i = y := by
  unfold rd_T4; rw [List.getD_eq_getElem?_getD, List.getElem?_set_self (by omega)]; rfl
theorem rdn53 (l : List S53) (i : Int) : rd_T53 l ((i.toNat : Nat) : Int) = rd_T53 l i := rfl
theorem rdset53 (l : List S53) (i : Int) (y : S53) (h : i < (l.length : Int)) (h0 : 0 ≤ i) : rd_T53 (l.set i.toNat y) i = y := by
  unfold rd_T53; rw [List.getD_eq_getElem?_getD, List.getElem?_set_self (by omega)]; rfl
end Go.Proofs.Yteideicglgpfiaa.M2

/- What the print's plain functions answer, the own ones answer. Written by a program of this session. -/
namespace Go.Proofs.Yteideicglgpfiaa.M2
open Go Go.RowKit Go.Proofs.YteideicglgpfiaaW.PrintWords Go.Proofs.Yteideicglgpfiaa.PK
set_option linter.unusedVariables false
set_option linter.unusedSimpArgs false
theorem laws_szVolS.rel (k : Nat) (l0 : List (S96)) (a1 : Int) (r) (h : PK.laws_szVolS.f l0 a1 = some r) (m : Nat) (hm : k ≤ m) : laws_szVolS.f m l0 a1 = some r := by
  rw [PK.laws_szVolS.f] at h
  rw [laws_szVolS.f]
  try simp only [w64_eq, wu8_eq, gt_iff_lt, ge_iff_le, int_beq, fdiv33, fdiv45, bt_eq, tmodN, rdOfB, rdOfL] at h
  try simp only [shlR]
  try simp only [w64_eq, wu8_eq, gt_iff_lt, ge_iff_le, int_beq, fdiv33, fdiv45, bt_eq, tmodN, rdOfB, rdOfL, rdT3_eq, seq, maxI, minI, emp_eq, rdn3, rdn96, rdn108, rdn88, rdn4, rdn53]
  refine (itE h (fun q h => ?_) (fun q h => ?_))
  all_goals (try cases h)
  all_goals (try simp only [*, if_true, if_false, ↓reduceIte, Option.bind_some, List.length_cons, List.length_nil, List.length_append, Bool.not_true, Bool.not_false, Bool.true_eq_false, Bool.false_eq_true])
  all_goals (repeat first | rw [if_pos (by omega)] | rw [if_neg (by omega)])
  all_goals first | exact h | apply h | rfl | (simp_all [-Bool.forall_bool]; done) | (simp_all [-Bool.forall_bool]; first | exact h | apply h) | (simp_all [-Bool.forall_bool, emp_eq, int_beq]; done) | (simp_all [-Bool.forall_bool]; (intros; simp_all; done)) | (simp_all [-Bool.forall_bool, rdset3, rdset96, rdset108, rdset88, rdset4, rdset53]; done) | grind

theorem laws_szIntS.rel (k : Nat) (l0 : List Int) (a1 : Int) (r) (h : PK.laws_szIntS.f l0 a1 = some r) (m : Nat) (hm : k ≤ m) : laws_szIntS.f m l0 a1 = some r := by
  rw [PK.laws_szIntS.f] at h
  rw [laws_szIntS.f]
  try simp only [w64_eq, wu8_eq, gt_iff_lt, ge_iff_le, int_beq, fdiv33, fdiv45, bt_eq, tmodN, rdOfB, rdOfL] at h
  try simp only [shlR]
  try simp only [w64_eq, wu8_eq, gt_iff_lt, ge_iff_le, int_beq, fdiv33, fdiv45, bt_eq, tmodN, rdOfB, rdOfL, rdT3_eq, seq, maxI, minI, emp_eq, rdn3, rdn96, rdn108, rdn88, rdn4, rdn53]
  refine (itE h (fun q h => ?_) (fun q h => ?_))
  all_goals (try cases h)
  all_goals (try simp only [*, if_true, if_false, ↓reduceIte, Option.bind_some, List.length_cons, List.length_nil, List.length_append, Bool.not_true, Bool.not_false, Bool.true_eq_false, Bool.false_eq_true])
  all_goals (repeat first | rw [if_pos (by omega)] | rw [if_neg (by omega)])
  all_goals first | exact h | apply h | rfl | (simp_all [-Bool.forall_bool]; done) | (simp_all [-Bool.forall_bool]; first | exact h | apply h) | (simp_all [-Bool.forall_bool, emp_eq, int_beq]; done) | (simp_all [-Bool.forall_bool]; (intros; simp_all; done)) | (simp_all [-Bool.forall_bool, rdset3, rdset96, rdset108, rdset88, rdset4, rdset53]; done) | grind

theorem laws_szKnot.rel (k : Nat) (a0_0 : Bool) (l0_1 : List Int) (a1 : Int) (r) (h : PK.laws_szKnot.f a0_0 l0_1 a1 = some r) (m : Nat) (hm : k ≤ m) : laws_szKnot.f m a0_0 l0_1 a1 = some r := by
  rw [PK.laws_szKnot.f] at h
  rw [laws_szKnot.f]
  try simp only [w64_eq, wu8_eq, gt_iff_lt, ge_iff_le, int_beq, fdiv33, fdiv45, bt_eq, tmodN, rdOfB, rdOfL] at h
  try simp only [shlR]
  try simp only [w64_eq, wu8_eq, gt_iff_lt, ge_iff_le, int_beq, fdiv33, fdiv45, bt_eq, tmodN, rdOfB, rdOfL, rdT3_eq, seq, maxI, minI, emp_eq, rdn3, rdn96, rdn108, rdn88, rdn4, rdn53]
  refine (bnE h (fun _ g h => (fun g => (itE h (fun q h => ?_) (fun q h => ?_))) (laws_szIntS.rel m _ _ _ g m (by omega))))
  all_goals (try cases h)
  all_goals (try simp only [*, if_true, if_false, ↓reduceIte, Option.bind_some, List.length_cons, List.length_nil, List.length_append, Bool.not_true, Bool.not_false, Bool.true_eq_false, Bool.false_eq_true])
  all_goals (repeat first | rw [if_pos (by omega)] | rw [if_neg (by omega)])
  all_goals first | exact h | apply h | rfl | (simp_all [-Bool.forall_bool]; done) | (simp_all [-Bool.forall_bool]; first | exact h | apply h) | (simp_all [-Bool.forall_bool, emp_eq, int_beq]; done) | (simp_all [-Bool.forall_bool]; (intros; simp_all; done)) | (simp_all [-Bool.forall_bool, rdset3, rdset96, rdset108, rdset88, rdset4, rdset53]; done) | grind

theorem laws_szKnotS.rel_l (k : Nat) : (∀ x0 x1 x5 r, PK.laws_szKnotS.l0 k x0 x1 x5 = some r → ∀ m, k ≤ m → laws_szKnotS.c5 m x0 x1 x5 = some r) := by
  induction k using Nat.strongRecOn with
  | _ k ih =>
  have il0 := fun k' hk' => (ih k' hk')
  clear ih
  intro x0 x1 x5 r h m hm
  cases k with
  | zero => simp only [PK.laws_szKnotS.l0] at h; cases h
  | succ k =>
    obtain ⟨m, rfl⟩ : ∃ m', m = m' + 1 := ⟨m - 1, by omega⟩
    rw [PK.laws_szKnotS.l0] at h
    rw [laws_szKnotS.c5]
    try simp only [w64_eq, wu8_eq, gt_iff_lt, ge_iff_le, int_beq, fdiv33, fdiv45, bt_eq, tmodN, rdOfB, rdOfL] at h
    try simp only [shlR]
    try simp only [w64_eq, wu8_eq, gt_iff_lt, ge_iff_le, int_beq, fdiv33, fdiv45, bt_eq, tmodN, rdOfB, rdOfL, rdT3_eq, seq, maxI, minI, emp_eq, rdn3, rdn96, rdn108, rdn88, rdn4, rdn53]
    refine (itE h (fun q h => (itE h (fun q h => (bnE h (fun _ g h => (fun g => (itE h (fun q h => ?_) (fun q h => ((fun h => ?_) (il0 _ (by omega) _ _ _ _ h m (by omega)))))) (laws_szKnot.rel m _ _ _ _ g m (by omega))))) (fun q h => (noE h)))) (fun q h => ?_))
    all_goals clear il0
    all_goals (try cases h)
    all_goals (try simp only [*, if_true, if_false, ↓reduceIte, Option.bind_some, List.length_cons, List.length_nil, List.length_append, Bool.not_true, Bool.not_false, Bool.true_eq_false, Bool.false_eq_true])
    all_goals (repeat first | rw [if_pos (by omega)] | rw [if_neg (by omega)])
    all_goals first | exact h | apply h | rfl | (simp_all [-Bool.forall_bool]; done) | (simp_all [-Bool.forall_bool]; first | exact h | apply h) | (simp_all [-Bool.forall_bool, emp_eq, int_beq]; done) | (simp_all [-Bool.forall_bool]; (intros; simp_all; done)) | (simp_all [-Bool.forall_bool, rdset3, rdset96, rdset108, rdset88, rdset4, rdset53]; done) | grind
theorem laws_szKnotS.rel (k : Nat) (l0 : List (S108)) (a1 : Int) (r) (h : PK.laws_szKnotS.f k l0 a1 = some r) (m : Nat) (hm : k ≤ m) : laws_szKnotS.f m l0 a1 = some r := by
  have il0 := fun k' (_ : k' < k + 1) => (laws_szKnotS.rel_l k')
  rw [PK.laws_szKnotS.f] at h
  rw [laws_szKnotS.f]
  try simp only [w64_eq, wu8_eq, gt_iff_lt, ge_iff_le, int_beq, fdiv33, fdiv45, bt_eq, tmodN, rdOfB, rdOfL] at h
  try simp only [shlR]
  try simp only [w64_eq, wu8_eq, gt_iff_lt, ge_iff_le, int_beq, fdiv33, fdiv45, bt_eq, tmodN, rdOfB, rdOfL, rdT3_eq, seq, maxI, minI, emp_eq, rdn3, rdn96, rdn108, rdn88, rdn4, rdn53]
  refine (itE h (fun q h => ?_) (fun q h => ((fun h => ?_) (il0 _ (by omega) _ _ _ _ h m (by omega)))))
  all_goals clear il0
  all_goals (try cases h)
  all_goals (try simp only [*, if_true, if_false, ↓reduceIte, Option.bind_some, List.length_cons, List.length_nil, List.length_append, Bool.not_true, Bool.not_false, Bool.true_eq_false, Bool.false_eq_true])
  all_goals (repeat first | rw [if_pos (by omega)] | rw [if_neg (by omega)])
  all_goals first | exact h | apply h | rfl | (simp_all [-Bool.forall_bool]; done) | (simp_all [-Bool.forall_bool]; first | exact h | apply h) | (simp_all [-Bool.forall_bool, emp_eq, int_beq]; done) | (simp_all [-Bool.forall_bool]; (intros; simp_all; done)) | (simp_all [-Bool.forall_bool, rdset3, rdset96, rdset108, rdset88, rdset4, rdset53]; done) | grind
end Go.Proofs.Yteideicglgpfiaa.M2

/- What the print's plain functions answer, the own ones answer. Written by a program of this session. -/
namespace Go.Proofs.Yteideicglgpfiaa.M2
open Go Go.RowKit Go.Proofs.YteideicglgpfiaaW.PrintWords Go.Proofs.Yteideicglgpfiaa.PK
set_option linter.unusedVariables false
set_option linter.unusedSimpArgs false
theorem laws_szArena.rel (k : Nat) (l0_0 : List (S108)) (a1 : Int) (r) (h : PK.laws_szArena.f k l0_0 a1 = some r) (m : Nat) (hm : k ≤ m) : laws_szArena.f m l0_0 a1 = some r := by
  rw [PK.laws_szArena.f] at h
  rw [laws_szArena.f]
  try simp only [w64_eq, wu8_eq, gt_iff_lt, ge_iff_le, int_beq, fdiv33, fdiv45, bt_eq, tmodN, rdOfB, rdOfL] at h
  try simp only [shlR]
  try simp only [w64_eq, wu8_eq, gt_iff_lt, ge_iff_le, int_beq, fdiv33, fdiv45, bt_eq, tmodN, rdOfB, rdOfL, rdT3_eq, seq, maxI, minI, emp_eq, rdn3, rdn96, rdn108, rdn88, rdn4, rdn53]
  refine (bnE h (fun _ g h => (fun g => (itE h (fun q h => ?_) (fun q h => ?_))) (laws_szKnotS.rel _ _ _ _ g m (by omega))))
  all_goals (try cases h)
  all_goals (try simp only [*, if_true, if_false, ↓reduceIte, Option.bind_some, List.length_cons, List.length_nil, List.length_append, Bool.not_true, Bool.not_false, Bool.true_eq_false, Bool.false_eq_true])
  all_goals (repeat first | rw [if_pos (by omega)] | rw [if_neg (by omega)])
  all_goals first | exact h | apply h | rfl | (simp_all [-Bool.forall_bool]; done) | (simp_all [-Bool.forall_bool]; first | exact h | apply h) | (simp_all [-Bool.forall_bool, emp_eq, int_beq]; done) | (simp_all [-Bool.forall_bool]; (intros; simp_all; done)) | (simp_all [-Bool.forall_bool, rdset3, rdset96, rdset108, rdset88, rdset4, rdset53]; done) | grind

theorem laws_szStore.rel (k : Nat) (l0_0 : List (S96)) (l0_1 : List (S108)) (a0_2 : Int) (a1 : Int) (r) (h : PK.laws_szStore.f k l0_0 l0_1 a0_2 a1 = some r) (m : Nat) (hm : k ≤ m) : laws_szStore.f m l0_0 l0_1 a0_2 a1 = some r := by
  rw [PK.laws_szStore.f] at h
  rw [laws_szStore.f]
  try simp only [w64_eq, wu8_eq, gt_iff_lt, ge_iff_le, int_beq, fdiv33, fdiv45, bt_eq, tmodN, rdOfB, rdOfL] at h
  try simp only [shlR]
  try simp only [w64_eq, wu8_eq, gt_iff_lt, ge_iff_le, int_beq, fdiv33, fdiv45, bt_eq, tmodN, rdOfB, rdOfL, rdT3_eq, seq, maxI, minI, emp_eq, rdn3, rdn96, rdn108, rdn88, rdn4, rdn53]
  refine (bnE h (fun _ g h => (fun g => (itE h (fun q h => ?_) (fun q h => (bnE h (fun _ g h => (fun g => (itE h (fun q h => ?_) (fun q h => ?_))) (laws_szArena.rel _ _ _ _ g m (by omega))))))) (laws_szVolS.rel m _ _ _ g m (by omega))))
  all_goals (try cases h)
  all_goals (try simp only [*, if_true, if_false, ↓reduceIte, Option.bind_some, List.length_cons, List.length_nil, List.length_append, Bool.not_true, Bool.not_false, Bool.true_eq_false, Bool.false_eq_true])
  all_goals (repeat first | rw [if_pos (by omega)] | rw [if_neg (by omega)])
  all_goals first | exact h | apply h | rfl | (simp_all [-Bool.forall_bool]; done) | (simp_all [-Bool.forall_bool]; first | exact h | apply h) | (simp_all [-Bool.forall_bool, emp_eq, int_beq]; done) | (simp_all [-Bool.forall_bool]; (intros; simp_all; done)) | (simp_all [-Bool.forall_bool, rdset3, rdset96, rdset108, rdset88, rdset4, rdset53]; done) | grind

theorem laws_toVol.rel (k : Nat) (a0_0 : Int) (a0_1 : Int) (r) (h : PK.laws_toVol.f a0_0 a0_1 = some r) (m : Nat) (hm : k ≤ m) : laws_toVol.f m a0_0 a0_1 = some (r.1, r.2) := by
  rw [PK.laws_toVol.f] at h
  rw [laws_toVol.f]
  try simp only [w64_eq, wu8_eq, gt_iff_lt, ge_iff_le, int_beq, fdiv33, fdiv45, bt_eq, tmodN, rdOfB, rdOfL] at h
  try simp only [shlR]
  try simp only [w64_eq, wu8_eq, gt_iff_lt, ge_iff_le, int_beq, fdiv33, fdiv45, bt_eq, tmodN, rdOfB, rdOfL, rdT3_eq, seq, maxI, minI, emp_eq, rdn3, rdn96, rdn108, rdn88, rdn4, rdn53]
  refine ?_
  all_goals (try cases h)
  all_goals (try simp only [*, if_true, if_false, ↓reduceIte, Option.bind_some, List.length_cons, List.length_nil, List.length_append, Bool.not_true, Bool.not_false, Bool.true_eq_false, Bool.false_eq_true])
  all_goals (repeat first | rw [if_pos (by omega)] | rw [if_neg (by omega)])
  all_goals first | exact h | apply h | rfl | (simp_all [-Bool.forall_bool]; done) | (simp_all [-Bool.forall_bool]; first | exact h | apply h) | (simp_all [-Bool.forall_bool, emp_eq, int_beq]; done) | (simp_all [-Bool.forall_bool]; (intros; simp_all; done)) | (simp_all [-Bool.forall_bool, rdset3, rdset96, rdset108, rdset88, rdset4, rdset53]; done) | grind

theorem laws_toVolS.rel_l (k : Nat) : (∀ x0 x3 x4 r, PK.laws_toVolS.l0 k x0 x3 x4 = some r → ∀ m, k ≤ m → laws_toVolS.c3 m x0 x4 x3 = some r) := by
  induction k using Nat.strongRecOn with
  | _ k ih =>
  have il0 := fun k' hk' => (ih k' hk')
  clear ih
  intro x0 x3 x4 r h m hm
  cases k with
  | zero => simp only [PK.laws_toVolS.l0] at h; cases h
  | succ k =>
    obtain ⟨m, rfl⟩ : ∃ m', m = m' + 1 := ⟨m - 1, by omega⟩
    rw [PK.laws_toVolS.l0] at h
    rw [laws_toVolS.c3]
    try simp only [w64_eq, wu8_eq, gt_iff_lt, ge_iff_le, int_beq, fdiv33, fdiv45, bt_eq, tmodN, rdOfB, rdOfL] at h
    try simp only [shlR]
    try simp only [w64_eq, wu8_eq, gt_iff_lt, ge_iff_le, int_beq, fdiv33, fdiv45, bt_eq, tmodN, rdOfB, rdOfL, rdT3_eq, seq, maxI, minI, emp_eq, rdn3, rdn96, rdn108, rdn88, rdn4, rdn53]
    refine (itE h (fun q h => (itE h (fun q h => (bnE h (fun _ g h => (fun g => (itE h (fun q h => ((fun h => ?_) (il0 _ (by omega) _ _ _ _ h m (by omega)))) (fun q h => (noE h)))) (laws_toVol.rel m _ _ _ g m (by omega))))) (fun q h => (noE h)))) (fun q h => ?_))
    all_goals clear il0
    all_goals (try cases h)
    all_goals (try simp only [*, if_true, if_false, ↓reduceIte, Option.bind_some, List.length_cons, List.length_nil, List.length_append, Bool.not_true, Bool.not_false, Bool.true_eq_false, Bool.false_eq_true])
    all_goals (repeat first | rw [if_pos (by omega)] | rw [if_neg (by omega)])
    all_goals first | exact h | apply h | rfl | (simp_all [-Bool.forall_bool]; done) | (simp_all [-Bool.forall_bool]; first | exact h | apply h) | (simp_all [-Bool.forall_bool, emp_eq, int_beq]; done) | (simp_all [-Bool.forall_bool]; (intros; simp_all; done)) | (simp_all [-Bool.forall_bool, rdset3, rdset96, rdset108, rdset88, rdset4, rdset53]; done) | grind
theorem laws_toVolS.rel (k : Nat) (l0 : List (S96)) (r) (h : PK.laws_toVolS.f k l0 = some r) (m : Nat) (hm : k ≤ m) : laws_toVolS.f m l0 = some r := by
  have il0 := fun k' (_ : k' < k + 1) => (laws_toVolS.rel_l k')
  rw [PK.laws_toVolS.f] at h
  rw [laws_toVolS.f]
  try simp only [w64_eq, wu8_eq, gt_iff_lt, ge_iff_le, int_beq, fdiv33, fdiv45, bt_eq, tmodN, rdOfB, rdOfL] at h
  try simp only [shlR]
  try simp only [w64_eq, wu8_eq, gt_iff_lt, ge_iff_le, int_beq, fdiv33, fdiv45, bt_eq, tmodN, rdOfB, rdOfL, rdT3_eq, seq, maxI, minI, emp_eq, rdn3, rdn96, rdn108, rdn88, rdn4, rdn53]
  refine (itE h (fun q h => (itE h (fun q h => ((fun h => ?_) (il0 _ (by omega) _ _ _ _ h m (by omega)))) (fun q h => (noE h)))) (fun q h => (noE h)))
  all_goals clear il0
  all_goals (try cases h)
  all_goals (try simp only [*, if_true, if_false, ↓reduceIte, Option.bind_some, List.length_cons, List.length_nil, List.length_append, Bool.not_true, Bool.not_false, Bool.true_eq_false, Bool.false_eq_true])
  all_goals (repeat first | rw [if_pos (by omega)] | rw [if_neg (by omega)])
  all_goals first | exact h | apply h | rfl | (simp_all [-Bool.forall_bool]; done) | (simp_all [-Bool.forall_bool]; first | exact h | apply h) | (simp_all [-Bool.forall_bool, emp_eq, int_beq]; done) | (simp_all [-Bool.forall_bool]; (intros; simp_all; done)) | (simp_all [-Bool.forall_bool, rdset3, rdset96, rdset108, rdset88, rdset4, rdset53]; done) | grind
end Go.Proofs.Yteideicglgpfiaa.M2

/- What the print's plain functions answer, the own ones answer. Written by a program of this session. -/
namespace Go.Proofs.Yteideicglgpfiaa.M2
open Go Go.RowKit Go.Proofs.YteideicglgpfiaaW.PrintWords Go.Proofs.Yteideicglgpfiaa.PK
set_option linter.unusedVariables false
set_option linter.unusedSimpArgs false
theorem spec_l12Roots.rel_l (k : Nat) : (∀ x3 x4 x200000 x200001 x200002 r, PK.spec_l12Roots.l0 k x3 x4 x200000 x200001 x200002 = some r → ∀ m, k ≤ m → spec_l12Roots.c3 m x4 x200000 x200001 x200002 x3 = some r) := by
  induction k using Nat.strongRecOn with
  | _ k ih =>
  have il0 := fun k' hk' => (ih k' hk')
  clear ih
  intro x3 x4 x200000 x200001 x200002 r h m hm
  cases k with
  | zero => simp only [PK.spec_l12Roots.l0] at h; cases h
  | succ k =>
    obtain ⟨m, rfl⟩ : ∃ m', m = m' + 1 := ⟨m - 1, by omega⟩
    rw [PK.spec_l12Roots.l0] at h
    rw [spec_l12Roots.c3]
    try simp only [w64_eq, wu8_eq, gt_iff_lt, ge_iff_le, int_beq, fdiv33, fdiv45, bt_eq, tmodN, rdOfB, rdOfL] at h
    try simp only [shlR]
    try simp only [w64_eq, wu8_eq, gt_iff_lt, ge_iff_le, int_beq, fdiv33, fdiv45, bt_eq, tmodN, rdOfB, rdOfL, rdT3_eq, seq, maxI, minI, emp_eq, rdn3, rdn96, rdn108, rdn88, rdn4, rdn53]
    refine (itE h (fun q h => (itE h (fun q h => (itE h (fun q h => ((fun h => ?_) (il0 _ (by omega) _ _ _ _ _ _ h m (by omega)))) (fun q h => (noE h)))) (fun q h => (noE h)))) (fun q h => ?_))
    all_goals clear il0
    all_goals (try cases h)
    all_goals (try simp only [*, if_true, if_false, ↓reduceIte, Option.bind_some, List.length_cons, List.length_nil, List.length_append, Bool.not_true, Bool.not_false, Bool.true_eq_false, Bool.false_eq_true])
    all_goals (repeat first | rw [if_pos (by omega)] | rw [if_neg (by omega)])
    all_goals first | exact h | apply h | rfl | (simp_all [-Bool.forall_bool]; done) | (simp_all [-Bool.forall_bool]; first | exact h | apply h) | (simp_all [-Bool.forall_bool, emp_eq, int_beq]; done) | (simp_all [-Bool.forall_bool]; (intros; simp_all; done)) | (simp_all [-Bool.forall_bool, rdset3, rdset96, rdset108, rdset88, rdset4, rdset53]; done) | grind
theorem spec_l12Roots.rel (k : Nat) (l0_0 : List (S53)) (l0_1 : List (S88)) (a0_2 : Int) (r) (h : PK.spec_l12Roots.f k l0_0 l0_1 a0_2 = some r) (m : Nat) (hm : k ≤ m) : spec_l12Roots.f m l0_0 l0_1 a0_2 = some r := by
  have il0 := fun k' (_ : k' < k + 1) => (spec_l12Roots.rel_l k')
  rw [PK.spec_l12Roots.f] at h
  rw [spec_l12Roots.f]
  try simp only [w64_eq, wu8_eq, gt_iff_lt, ge_iff_le, int_beq, fdiv33, fdiv45, bt_eq, tmodN, rdOfB, rdOfL] at h
  try simp only [shlR]
  try simp only [w64_eq, wu8_eq, gt_iff_lt, ge_iff_le, int_beq, fdiv33, fdiv45, bt_eq, tmodN, rdOfB, rdOfL, rdT3_eq, seq, maxI, minI, emp_eq, rdn3, rdn96, rdn108, rdn88, rdn4, rdn53]
  refine ((fun h => ?_) (il0 _ (by omega) _ _ _ _ _ _ h m (by omega)))
  all_goals clear il0
  all_goals (try cases h)
  all_goals (try simp only [*, if_true, if_false, ↓reduceIte, Option.bind_some, List.length_cons, List.length_nil, List.length_append, Bool.not_true, Bool.not_false, Bool.true_eq_false, Bool.false_eq_true])
  all_goals (repeat first | rw [if_pos (by omega)] | rw [if_neg (by omega)])
  all_goals first | exact h | apply h | rfl | (simp_all [-Bool.forall_bool]; done) | (simp_all [-Bool.forall_bool]; first | exact h | apply h) | (simp_all [-Bool.forall_bool, emp_eq, int_beq]; done) | (simp_all [-Bool.forall_bool]; (intros; simp_all; done)) | (simp_all [-Bool.forall_bool, rdset3, rdset96, rdset108, rdset88, rdset4, rdset53]; done) | grind

theorem impl_volAt.rel_l (k : Nat) : (∀ x1 x8 x9 x10 r, PK.impl_volAt.l0 k x1 x8 x9 x10 = some r → ∀ m, k ≤ m → impl_volAt.c2 m x1 x8 x9 x10 = some r) := by
  induction k using Nat.strongRecOn with
  | _ k ih =>
  have il0 := fun k' hk' => (ih k' hk')
  clear ih
  intro x1 x8 x9 x10 r h m hm
  cases k with
  | zero => simp only [PK.impl_volAt.l0] at h; cases h
  | succ k =>
    obtain ⟨m, rfl⟩ : ∃ m', m = m' + 1 := ⟨m - 1, by omega⟩
    rw [PK.impl_volAt.l0] at h
    rw [impl_volAt.c2]
    try simp only [w64_eq, wu8_eq, gt_iff_lt, ge_iff_le, int_beq, fdiv33, fdiv45, bt_eq, tmodN, rdOfB, rdOfL] at h
    try simp only [shlR]
    try simp only [w64_eq, wu8_eq, gt_iff_lt, ge_iff_le, int_beq, fdiv33, fdiv45, bt_eq, tmodN, rdOfB, rdOfL, rdT3_eq, seq, maxI, minI, emp_eq, rdn3, rdn96, rdn108, rdn88, rdn4, rdn53]
    refine (itE h (fun q h => (itE h (fun q h => (itE h (fun q h => (itE h (fun q h => ?_) (fun q h => ((fun h => ?_) (il0 _ (by omega) _ _ _ _ _ h m (by omega)))))) (fun q h => (noE h)))) (fun q h => (noE h)))) (fun q h => ?_))
    all_goals clear il0
    all_goals (try cases h)
    all_goals (try simp only [*, if_true, if_false, ↓reduceIte, Option.bind_some, List.length_cons, List.length_nil, List.length_append, Bool.not_true, Bool.not_false, Bool.true_eq_false, Bool.false_eq_true])
    all_goals (repeat first | rw [if_pos (by omega)] | rw [if_neg (by omega)])
    all_goals first | exact h | apply h | rfl | (simp_all [-Bool.forall_bool]; done) | (simp_all [-Bool.forall_bool]; first | exact h | apply h) | (simp_all [-Bool.forall_bool, emp_eq, int_beq]; done) | (simp_all [-Bool.forall_bool]; (intros; simp_all; done)) | (simp_all [-Bool.forall_bool, rdset3, rdset96, rdset108, rdset88, rdset4, rdset53]; done) | grind
theorem impl_volAt.rel (k : Nat) (l0_0 : List (S53)) (l0_1 : List (S88)) (a0_2 : Int) (a1 : Int) (r) (h : PK.impl_volAt.f k l0_0 l0_1 a0_2 a1 = some r) (m : Nat) (hm : k ≤ m) : impl_volAt.f m l0_0 l0_1 a0_2 a1 = some r := by
  have il0 := fun k' (_ : k' < k + 1) => (impl_volAt.rel_l k')
  rw [PK.impl_volAt.f] at h
  rw [impl_volAt.f]
  try simp only [w64_eq, wu8_eq, gt_iff_lt, ge_iff_le, int_beq, fdiv33, fdiv45, bt_eq, tmodN, rdOfB, rdOfL] at h
  try simp only [shlR]
  try simp only [w64_eq, wu8_eq, gt_iff_lt, ge_iff_le, int_beq, fdiv33, fdiv45, bt_eq, tmodN, rdOfB, rdOfL, rdT3_eq, seq, maxI, minI, emp_eq, rdn3, rdn96, rdn108, rdn88, rdn4, rdn53]
  refine ((fun h => ?_) (il0 _ (by omega) _ _ _ _ _ h m (by omega)))
  all_goals clear il0
  all_goals (try cases h)
  all_goals (try simp only [*, if_true, if_false, ↓reduceIte, Option.bind_some, List.length_cons, List.length_nil, List.length_append, Bool.not_true, Bool.not_false, Bool.true_eq_false, Bool.false_eq_true])
  all_goals (repeat first | rw [if_pos (by omega)] | rw [if_neg (by omega)])
  all_goals first | exact h | apply h | rfl | (simp_all [-Bool.forall_bool]; done) | (simp_all [-Bool.forall_bool]; first | exact h | apply h) | (simp_all [-Bool.forall_bool, emp_eq, int_beq]; done) | (simp_all [-Bool.forall_bool]; (intros; simp_all; done)) | (simp_all [-Bool.forall_bool, rdset3, rdset96, rdset108, rdset88, rdset4, rdset53]; done) | grind
end Go.Proofs.Yteideicglgpfiaa.M2

/- What the print's plain functions answer, the own ones answer. Written by a program of this session. -/
namespace Go.Proofs.Yteideicglgpfiaa.M2
open Go Go.RowKit Go.Proofs.YteideicglgpfiaaW.PrintWords Go.Proofs.Yteideicglgpfiaa.PK
set_option linter.unusedVariables false
set_option linter.unusedSimpArgs false
theorem impl_in.rel (k : Nat) (a0 : Int) (a1 : Int) (a2 : Int) (r) (h : PK.impl_in.f a0 a1 a2 = some r) (m : Nat) (hm : k ≤ m) : impl_in.f m a0 a1 a2 = some r := by
  rw [PK.impl_in.f] at h
  rw [impl_in.f]
  try simp only [w64_eq, wu8_eq, gt_iff_lt, ge_iff_le, int_beq, fdiv33, fdiv45, bt_eq, tmodN, rdOfB, rdOfL] at h
  try simp only [shlR]
  try simp only [w64_eq, wu8_eq, gt_iff_lt, ge_iff_le, int_beq, fdiv33, fdiv45, bt_eq, tmodN, rdOfB, rdOfL, rdT3_eq, seq, maxI, minI, emp_eq, rdn3, rdn96, rdn108, rdn88, rdn4, rdn53]
  refine (itE h (fun q h => ?_) (fun q h => ?_))
  all_goals (try cases h)
  all_goals (try simp only [*, if_true, if_false, ↓reduceIte, Option.bind_some, List.length_cons, List.length_nil, List.length_append, Bool.not_true, Bool.not_false, Bool.true_eq_false, Bool.false_eq_true])
  all_goals (repeat first | rw [if_pos (by omega)] | rw [if_neg (by omega)])
  all_goals first | exact h | apply h | rfl | (simp_all [-Bool.forall_bool]; done) | (simp_all [-Bool.forall_bool]; first | exact h | apply h) | (simp_all [-Bool.forall_bool, emp_eq, int_beq]; done) | (simp_all [-Bool.forall_bool]; (intros; simp_all; done)) | (simp_all [-Bool.forall_bool, rdset3, rdset96, rdset108, rdset88, rdset4, rdset53]; done) | grind

theorem impl_RecOk.rel (k : Nat) (a0_0 : Int) (a0_1 : Int) (a0_2 : Int) (a0_3 : Int) (r) (h : PK.impl_RecOk.f k a0_0 a0_1 a0_2 a0_3 = some r) (m : Nat) (hm : k ≤ m) : impl_RecOk.f m a0_0 a0_1 a0_2 a0_3 = some r := by
  rw [PK.impl_RecOk.f] at h
  rw [impl_RecOk.f]
  try simp only [w64_eq, wu8_eq, gt_iff_lt, ge_iff_le, int_beq, fdiv33, fdiv45, bt_eq, tmodN, rdOfB, rdOfL] at h
  try simp only [shlR]
  try simp only [w64_eq, wu8_eq, gt_iff_lt, ge_iff_le, int_beq, fdiv33, fdiv45, bt_eq, tmodN, rdOfB, rdOfL, rdT3_eq, seq, maxI, minI, emp_eq, rdn3, rdn96, rdn108, rdn88, rdn4, rdn53]
  refine (itE h (fun q h => (itE h (fun q h => (bnE h (fun _ g h => (fun g => (itE h (fun q h => ?_) (fun q h => ?_))) (impl_in.rel m _ _ _ _ g m (by omega))))) (fun q h => ?_))) (fun q h => (bnE h (fun _ g h => (fun g => (itE h (fun q h => (itE h (fun q h => (by cases k with | zero => (simp only [PK.impl_RecOk.j0] at h; cases h) | succ k => (rw [PK.impl_RecOk.j0] at h; (try simp only [w64_eq, wu8_eq, gt_iff_lt, ge_iff_le, int_beq, fdiv33, fdiv45, bt_eq, tmodN, rdOfB, rdOfL] at h); refine (itE h (fun q h => ?_) (fun q h => (itE h (fun q h => (bnE h (fun _ g h => (fun g => ?_) (impl_in.rel m _ _ _ _ g m (by omega))))) (fun q h => (itE h (fun q h => ?_) (fun q h => (itE h (fun q h => (bnE h (fun _ g h => (fun g => (itE h (fun q h => (bnE h (fun _ g h => (fun g => ?_) (impl_in.rel m _ _ _ _ g m (by omega))))) (fun q h => ?_))) (impl_in.rel m _ _ _ _ g m (by omega))))) (fun q h => (itE h (fun q h => (bnE h (fun _ g h => (fun g => ?_) (impl_in.rel m _ _ _ _ g m (by omega))))) (fun q h => ?_)))))))))) <;> ((try cases h); (try simp only [*, if_true, if_false, ↓reduceIte, Option.bind_some, List.length_cons, List.length_nil, List.length_append, Bool.not_true, Bool.not_false, Bool.true_eq_false, Bool.false_eq_true]); all_goals (repeat first | rw [if_pos (by omega)] | rw [if_neg (by omega)]); all_goals (first | exact h | apply h | rfl | (simp_all [-Bool.forall_bool]; done) | (simp_all [-Bool.forall_bool]; first | exact h | apply h) | (simp_all [-Bool.forall_bool, emp_eq, int_beq]; done) | (simp_all [-Bool.forall_bool]; (intros; simp_all; done)) | (simp_all [-Bool.forall_bool, rdset3, rdset96, rdset108, rdset88, rdset4, rdset53]; done) | grind))))) (fun q h => (by cases k with | zero => (simp only [PK.impl_RecOk.j0] at h; cases h) | succ k => (rw [PK.impl_RecOk.j0] at h; (try simp only [w64_eq, wu8_eq, gt_iff_lt, ge_iff_le, int_beq, fdiv33, fdiv45, bt_eq, tmodN, rdOfB, rdOfL] at h); refine (itE h (fun q h => ?_) (fun q h => (itE h (fun q h => (bnE h (fun _ g h => (fun g => ?_) (impl_in.rel m _ _ _ _ g m (by omega))))) (fun q h => (itE h (fun q h => ?_) (fun q h => (itE h (fun q h => (bnE h (fun _ g h => (fun g => (itE h (fun q h => (bnE h (fun _ g h => (fun g => ?_) (impl_in.rel m _ _ _ _ g m (by omega))))) (fun q h => ?_))) (impl_in.rel m _ _ _ _ g m (by omega))))) (fun q h => (itE h (fun q h => (bnE h (fun _ g h => (fun g => ?_) (impl_in.rel m _ _ _ _ g m (by omega))))) (fun q h => ?_)))))))))) <;> ((try cases h); (try simp only [*, if_true, if_false, ↓reduceIte, Option.bind_some, List.length_cons, List.length_nil, List.length_append, Bool.not_true, Bool.not_false, Bool.true_eq_false, Bool.false_eq_true]); all_goals (repeat first | rw [if_pos (by omega)] | rw [if_neg (by omega)]); all_goals (first | exact h | apply h | rfl | (simp_all [-Bool.forall_bool]; done) | (simp_all [-Bool.forall_bool]; first | exact h | apply h) | (simp_all [-Bool.forall_bool, emp_eq, int_beq]; done) | (simp_all [-Bool.forall_bool]; (intros; simp_all; done)) | (simp_all [-Bool.forall_bool, rdset3, rdset96, rdset108, rdset88, rdset4, rdset53]; done) | grind))))))) (fun q h => (by cases k with | zero => (simp only [PK.impl_RecOk.j0] at h; cases h) | succ k => (rw [PK.impl_RecOk.j0] at h; (try simp only [w64_eq, wu8_eq, gt_iff_lt, ge_iff_le, int_beq, fdiv33, fdiv45, bt_eq, tmodN, rdOfB, rdOfL] at h); refine (itE h (fun q h => ?_) (fun q h => (itE h (fun q h => (bnE h (fun _ g h => (fun g => ?_) (impl_in.rel m _ _ _ _ g m (by omega))))) (fun q h => (itE h (fun q h => ?_) (fun q h => (itE h (fun q h => (bnE h (fun _ g h => (fun g => (itE h (fun q h => (bnE h (fun _ g h => (fun g => ?_) (impl_in.rel m _ _ _ _ g m (by omega))))) (fun q h => ?_))) (impl_in.rel m _ _ _ _ g m (by omega))))) (fun q h => (itE h (fun q h => (bnE h (fun _ g h => (fun g => ?_) (impl_in.rel m _ _ _ _ g m (by omega))))) (fun q h => ?_)))))))))) <;> ((try cases h); (try simp only [*, if_true, if_false, ↓reduceIte, Option.bind_some, List.length_cons, List.length_nil, List.length_append, Bool.not_true, Bool.not_false, Bool.true_eq_false, Bool.false_eq_true]); all_goals (repeat first | rw [if_pos (by omega)] | rw [if_neg (by omega)]); all_goals (first | exact h | apply h | rfl | (simp_all [-Bool.forall_bool]; done) | (simp_all [-Bool.forall_bool]; first | exact h | apply h) | (simp_all [-Bool.forall_bool, emp_eq, int_beq]; done) | (simp_all [-Bool.forall_bool]; (intros; simp_all; done)) | (simp_all [-Bool.forall_bool, rdset3, rdset96, rdset108, rdset88, rdset4, rdset53]; done) | grind))))))) (impl_in.rel m _ _ _ _ g m (by omega))))))
  all_goals (try cases h)
  all_goals (try simp only [*, if_true, if_false, ↓reduceIte, Option.bind_some, List.length_cons, List.length_nil, List.length_append, Bool.not_true, Bool.not_false, Bool.true_eq_false, Bool.false_eq_true])
  all_goals (repeat first | rw [if_pos (by omega)] | rw [if_neg (by omega)])
  all_goals first | exact h | apply h | rfl | (simp_all [-Bool.forall_bool]; done) | (simp_all [-Bool.forall_bool]; first | exact h | apply h) | (simp_all [-Bool.forall_bool, emp_eq, int_beq]; done) | (simp_all [-Bool.forall_bool]; (intros; simp_all; done)) | (simp_all [-Bool.forall_bool, rdset3, rdset96, rdset108, rdset88, rdset4, rdset53]; done) | grind
end Go.Proofs.Yteideicglgpfiaa.M2

/- What the print's plain functions answer, the own ones answer. Written by a program of this session. -/
namespace Go.Proofs.Yteideicglgpfiaa.M2
open Go Go.RowKit Go.Proofs.YteideicglgpfiaaW.PrintWords Go.Proofs.Yteideicglgpfiaa.PK
set_option linter.unusedVariables false
set_option linter.unusedSimpArgs false
theorem impl_ArenaOk.rel_l (k : Nat) : (∀ x8 x9 x10 x496000 r, PK.impl_ArenaOk.l0 k x8 x9 x10 x496000 = some r → ∀ m, k ≤ m → impl_ArenaOk.c2 m x8 x9 x10 x496000 = some r) ∧ (∀ x3 x8 x9 x10 x20 x21 x22 x496000 x498000 x498001 r, PK.impl_ArenaOk.l1 k x3 x8 x9 x10 x20 x21 x22 x496000 x498000 x498001 = some r → ∀ m, k ≤ m → impl_ArenaOk.c7 m x3 x8 x9 x10 x20 x21 x22 x496000 x498000 x498001 = some r) := by
  induction k using Nat.strongRecOn with
  | _ k ih =>
  have il0 := fun k' hk' => (ih k' hk').1
  have il1 := fun k' hk' => (ih k' hk').2
  clear ih
  refine ⟨?_, ?_⟩
  · intro x8 x9 x10 x496000 r h m hm
    cases k with
    | zero => simp only [PK.impl_ArenaOk.l0] at h; cases h
    | succ k =>
      obtain ⟨m, rfl⟩ : ∃ m', m = m' + 1 := ⟨m - 1, by omega⟩
      rw [PK.impl_ArenaOk.l0] at h
      rw [impl_ArenaOk.c2]
      try simp only [w64_eq, wu8_eq, gt_iff_lt, ge_iff_le, int_beq, fdiv33, fdiv45, bt_eq, tmodN, rdOfB, rdOfL] at h
      try simp only [shlR]
      try simp only [w64_eq, wu8_eq, gt_iff_lt, ge_iff_le, int_beq, fdiv33, fdiv45, bt_eq, tmodN, rdOfB, rdOfL, rdT3_eq, seq, maxI, minI, emp_eq, rdn3, rdn96, rdn108, rdn88, rdn4, rdn53]
      refine (itE h (fun q h => (itE h (fun q h => (itE h (fun q h => (itE h (fun q h => ((fun h => ?_) (il1 _ (by omega) _ _ _ _ _ _ _ _ _ _ _ h m (by omega)))) (fun q h => ?_))) (fun q h => (noE h)))) (fun q h => (noE h)))) (fun q h => ?_))
      all_goals clear il0 il1
      all_goals (try cases h)
      all_goals (try simp only [*, if_true, if_false, ↓reduceIte, Option.bind_some, List.length_cons, List.length_nil, List.length_append, Bool.not_true, Bool.not_false, Bool.true_eq_false, Bool.false_eq_true])
      all_goals (repeat first | rw [if_pos (by omega)] | rw [if_neg (by omega)])
      all_goals first | exact h | apply h | rfl | (simp_all [-Bool.forall_bool]; done) | (simp_all [-Bool.forall_bool]; first | exact h | apply h) | (simp_all [-Bool.forall_bool, emp_eq, int_beq]; done) | (simp_all [-Bool.forall_bool]; (intros; simp_all; done)) | (simp_all [-Bool.forall_bool, rdset3, rdset96, rdset108, rdset88, rdset4, rdset53]; done) | grind
  · intro x3 x8 x9 x10 x20 x21 x22 x496000 x498000 x498001 r h m hm
    cases k with
    | zero => simp only [PK.impl_ArenaOk.l1] at h; cases h
    | succ k =>
      obtain ⟨m, rfl⟩ : ∃ m', m = m' + 1 := ⟨m - 1, by omega⟩
      rw [PK.impl_ArenaOk.l1] at h
      rw [impl_ArenaOk.c7]
      try simp only [w64_eq, wu8_eq, gt_iff_lt, ge_iff_le, int_beq, fdiv33, fdiv45, bt_eq, tmodN, rdOfB, rdOfL] at h
      try simp only [shlR]
      try simp only [w64_eq, wu8_eq, gt_iff_lt, ge_iff_le, int_beq, fdiv33, fdiv45, bt_eq, tmodN, rdOfB, rdOfL, rdT3_eq, seq, maxI, minI, emp_eq, rdn3, rdn96, rdn108, rdn88, rdn4, rdn53]
      refine (itE h (fun q h => (itE h (fun q h => (itE h (fun q h => (itE h (fun q h => (itE h (fun q h => ?_) (fun q h => ((fun h => ?_) (il1 _ (by omega) _ _ _ _ _ _ _ _ _ _ _ h m (by omega)))))) (fun q h => (itE h (fun q h => ((fun h => ?_) (il1 _ (by omega) _ _ _ _ _ _ _ _ _ _ _ h m (by omega)))) (fun q h => (bnE h (fun _ g h => (fun g => (itE h (fun q h => (itE h (fun q h => (itE h (fun q h => (itE h (fun q h => ((fun h => ?_) (il1 _ (by omega) _ _ _ _ _ _ _ _ _ _ _ h m (by omega)))) (fun q h => ?_))) (fun q h => (noE h)))) (fun q h => (noE h)))) (fun q h => ?_))) (impl_in.rel m _ _ _ _ g m (by omega))))))))) (fun q h => (noE h)))) (fun q h => (noE h)))) (fun q h => ((fun h => ?_) (il0 _ (by omega) _ _ _ _ _ h m (by omega)))))
      all_goals clear il0 il1
      all_goals (try cases h)
      all_goals (try simp only [*, if_true, if_false, ↓reduceIte, Option.bind_some, List.length_cons, List.length_nil, List.length_append, Bool.not_true, Bool.not_false, Bool.true_eq_false, Bool.false_eq_true])
      all_goals (repeat first | rw [if_pos (by omega)] | rw [if_neg (by omega)])
      all_goals first | exact h | apply h | rfl | (simp_all [-Bool.forall_bool]; done) | (simp_all [-Bool.forall_bool]; first | exact h | apply h) | (simp_all [-Bool.forall_bool, emp_eq, int_beq]; done) | (simp_all [-Bool.forall_bool]; (intros; simp_all; done)) | (simp_all [-Bool.forall_bool, rdset3, rdset96, rdset108, rdset88, rdset4, rdset53]; done) | grind
theorem impl_ArenaOk.rel (k : Nat) (l0_0 : List (S88)) (r) (h : PK.impl_ArenaOk.f k l0_0 = some r) (m : Nat) (hm : k ≤ m) : impl_ArenaOk.f m l0_0 = some r := by
  have il0 := fun k' (_ : k' < k + 1) => (impl_ArenaOk.rel_l k').1
  have il1 := fun k' (_ : k' < k + 1) => (impl_ArenaOk.rel_l k').2
  rw [PK.impl_ArenaOk.f] at h
  rw [impl_ArenaOk.f]
  try simp only [w64_eq, wu8_eq, gt_iff_lt, ge_iff_le, int_beq, fdiv33, fdiv45, bt_eq, tmodN, rdOfB, rdOfL] at h
  try simp only [shlR]
  try simp only [w64_eq, wu8_eq, gt_iff_lt, ge_iff_le, int_beq, fdiv33, fdiv45, bt_eq, tmodN, rdOfB, rdOfL, rdT3_eq, seq, maxI, minI, emp_eq, rdn3, rdn96, rdn108, rdn88, rdn4, rdn53]
  refine ((fun h => ?_) (il0 _ (by omega) _ _ _ _ _ h m (by omega)))
  all_goals clear il0 il1
  all_goals (try cases h)
  all_goals (try simp only [*, if_true, if_false, ↓reduceIte, Option.bind_some, List.length_cons, List.length_nil, List.length_append, Bool.not_true, Bool.not_false, Bool.true_eq_false, Bool.false_eq_true])
  all_goals (repeat first | rw [if_pos (by omega)] | rw [if_neg (by omega)])
  all_goals first | exact h | apply h | rfl | (simp_all [-Bool.forall_bool]; done) | (simp_all [-Bool.forall_bool]; first | exact h | apply h) | (simp_all [-Bool.forall_bool, emp_eq, int_beq]; done) | (simp_all [-Bool.forall_bool]; (intros; simp_all; done)) | (simp_all [-Bool.forall_bool, rdset3, rdset96, rdset108, rdset88, rdset4, rdset53]; done) | grind

theorem impl_hasInt.rel_l (k : Nat) : (∀ x1 x7 x8 x9 r, PK.impl_hasInt.l0 k x1 x7 x8 x9 = some r → ∀ m, k ≤ m → impl_hasInt.c2 m x1 x7 x8 x9 = some r) := by
  induction k using Nat.strongRecOn with
  | _ k ih =>
  have il0 := fun k' hk' => (ih k' hk')
  clear ih
  intro x1 x7 x8 x9 r h m hm
  cases k with
  | zero => simp only [PK.impl_hasInt.l0] at h; cases h
  | succ k =>
    obtain ⟨m, rfl⟩ : ∃ m', m = m' + 1 := ⟨m - 1, by omega⟩
    rw [PK.impl_hasInt.l0] at h
    rw [impl_hasInt.c2]
    try simp only [w64_eq, wu8_eq, gt_iff_lt, ge_iff_le, int_beq, fdiv33, fdiv45, bt_eq, tmodN, rdOfB, rdOfL] at h
    try simp only [shlR]
    try simp only [w64_eq, wu8_eq, gt_iff_lt, ge_iff_le, int_beq, fdiv33, fdiv45, bt_eq, tmodN, rdOfB, rdOfL, rdT3_eq, seq, maxI, minI, emp_eq, rdn3, rdn96, rdn108, rdn88, rdn4, rdn53]
    refine (itE h (fun q h => (itE h (fun q h => (itE h (fun q h => (itE h (fun q h => ?_) (fun q h => ((fun h => ?_) (il0 _ (by omega) _ _ _ _ _ h m (by omega)))))) (fun q h => (noE h)))) (fun q h => (noE h)))) (fun q h => ?_))
    all_goals clear il0
    all_goals (try cases h)
    all_goals (try simp only [*, if_true, if_false, ↓reduceIte, Option.bind_some, List.length_cons, List.length_nil, List.length_append, Bool.not_true, Bool.not_false, Bool.true_eq_false, Bool.false_eq_true])
    all_goals (repeat first | rw [if_pos (by omega)] | rw [if_neg (by omega)])
    all_goals first | exact h | apply h | rfl | (simp_all [-Bool.forall_bool]; done) | (simp_all [-Bool.forall_bool]; first | exact h | apply h) | (simp_all [-Bool.forall_bool, emp_eq, int_beq]; done) | (simp_all [-Bool.forall_bool]; (intros; simp_all; done)) | (simp_all [-Bool.forall_bool, rdset3, rdset96, rdset108, rdset88, rdset4, rdset53]; done) | grind
theorem impl_hasInt.rel (k : Nat) (l0 : List Int) (a1 : Int) (r) (h : PK.impl_hasInt.f k l0 a1 = some r) (m : Nat) (hm : k ≤ m) : impl_hasInt.f m l0 a1 = some r := by
  have il0 := fun k' (_ : k' < k + 1) => (impl_hasInt.rel_l k')
  rw [PK.impl_hasInt.f] at h
  rw [impl_hasInt.f]
  try simp only [w64_eq, wu8_eq, gt_iff_lt, ge_iff_le, int_beq, fdiv33, fdiv45, bt_eq, tmodN, rdOfB, rdOfL] at h
  try simp only [shlR]
  try simp only [w64_eq, wu8_eq, gt_iff_lt, ge_iff_le, int_beq, fdiv33, fdiv45, bt_eq, tmodN, rdOfB, rdOfL, rdT3_eq, seq, maxI, minI, emp_eq, rdn3, rdn96, rdn108, rdn88, rdn4, rdn53]
  refine ((fun h => ?_) (il0 _ (by omega) _ _ _ _ _ h m (by omega)))
  all_goals clear il0
  all_goals (try cases h)
  all_goals (try simp only [*, if_true, if_false, ↓reduceIte, Option.bind_some, List.length_cons, List.length_nil, List.length_append, Bool.not_true, Bool.not_false, Bool.true_eq_false, Bool.false_eq_true])
  all_goals (repeat first | rw [if_pos (by omega)] | rw [if_neg (by omega)])
  all_goals first | exact h | apply h | rfl | (simp_all [-Bool.forall_bool]; done) | (simp_all [-Bool.forall_bool]; first | exact h | apply h) | (simp_all [-Bool.forall_bool, emp_eq, int_beq]; done) | (simp_all [-Bool.forall_bool]; (intros; simp_all; done)) | (simp_all [-Bool.forall_bool, rdset3, rdset96, rdset108, rdset88, rdset4, rdset53]; done) | grind
end Go.Proofs.Yteideicglgpfiaa.M2

/- What the print's plain functions answer, the own ones answer. Written by a program of this session. -/
namespace Go.Proofs.Yteideicglgpfiaa.M2
open Go Go.RowKit Go.Proofs.YteideicglgpfiaaW.PrintWords Go.Proofs.Yteideicglgpfiaa.PK
set_option linter.unusedVariables false
set_option linter.unusedSimpArgs false
theorem impl_isRoot.rel (k : Nat) (l0_0 : List (S88)) (a1 : Int) (r) (h : PK.impl_isRoot.f l0_0 a1 = some r) (m : Nat) (hm : k ≤ m) : impl_isRoot.f m l0_0 a1 = some r := by
  rw [PK.impl_isRoot.f] at h
  rw [impl_isRoot.f]
  try simp only [w64_eq, wu8_eq, gt_iff_lt, ge_iff_le, int_beq, fdiv33, fdiv45, bt_eq, tmodN, rdOfB, rdOfL] at h
  try simp only [shlR]
  try simp only [w64_eq, wu8_eq, gt_iff_lt, ge_iff_le, int_beq, fdiv33, fdiv45, bt_eq, tmodN, rdOfB, rdOfL, rdT3_eq, seq, maxI, minI, emp_eq, rdn3, rdn96, rdn108, rdn88, rdn4, rdn53]
  refine (bnE h (fun _ g h => (fun g => (itE h (fun q h => (itE h (fun q h => (itE h (fun q h => ?_) (fun q h => (noE h)))) (fun q h => (noE h)))) (fun q h => ?_))) (impl_in.rel m _ _ _ _ g m (by omega))))
  all_goals (try cases h)
  all_goals (try simp only [*, if_true, if_false, ↓reduceIte, Option.bind_some, List.length_cons, List.length_nil, List.length_append, Bool.not_true, Bool.not_false, Bool.true_eq_false, Bool.false_eq_true])
  all_goals (repeat first | rw [if_pos (by omega)] | rw [if_neg (by omega)])
  all_goals first | exact h | apply h | rfl | (simp_all [-Bool.forall_bool]; done) | (simp_all [-Bool.forall_bool]; first | exact h | apply h) | (simp_all [-Bool.forall_bool, emp_eq, int_beq]; done) | (simp_all [-Bool.forall_bool]; (intros; simp_all; done)) | (simp_all [-Bool.forall_bool, rdset3, rdset96, rdset108, rdset88, rdset4, rdset53]; done) | grind

theorem impl_knotsOf.rel_l (k : Nat) : (∀ x5 x19 x20 x21 x506000 r, PK.impl_knotsOf.l0 k x5 x19 x20 x21 x506000 = some r → ∀ m, k ≤ m → impl_knotsOf.c5 m x19 x20 x21 x506000 x5 = some r) := by
  induction k using Nat.strongRecOn with
  | _ k ih =>
  have il0 := fun k' hk' => (ih k' hk')
  clear ih
  intro x5 x19 x20 x21 x506000 r h m hm
  cases k with
  | zero => simp only [PK.impl_knotsOf.l0] at h; cases h
  | succ k =>
    obtain ⟨m, rfl⟩ : ∃ m', m = m' + 1 := ⟨m - 1, by omega⟩
    rw [PK.impl_knotsOf.l0] at h
    rw [impl_knotsOf.c5]
    try simp only [w64_eq, wu8_eq, gt_iff_lt, ge_iff_le, int_beq, fdiv33, fdiv45, bt_eq, tmodN, rdOfB, rdOfL] at h
    try simp only [shlR]
    try simp only [w64_eq, wu8_eq, gt_iff_lt, ge_iff_le, int_beq, fdiv33, fdiv45, bt_eq, tmodN, rdOfB, rdOfL, rdT3_eq, seq, maxI, minI, emp_eq, rdn3, rdn96, rdn108, rdn88, rdn4, rdn53]
    refine (itE h (fun q h => (itE h (fun q h => (itE h (fun q h => (bnE h (fun _ g h => (fun g => (itE h (fun q h => (bnE h (fun _ g h => (fun g => (itE h (fun q h => ((fun h => ?_) (il0 _ (by omega) _ _ _ _ _ _ h m (by omega)))) (fun q h => (itE h (fun q h => ((fun h => ?_) (il0 _ (by omega) _ _ _ _ _ _ h m (by omega)))) (fun q h => (noE h)))))) (impl_hasInt.rel _ _ _ _ g m (by omega))))) (fun q h => ((fun h => ?_) (il0 _ (by omega) _ _ _ _ _ _ h m (by omega)))))) (impl_in.rel m _ _ _ _ g m (by omega))))) (fun q h => (noE h)))) (fun q h => (noE h)))) (fun q h => ?_))
    all_goals clear il0
    all_goals (try cases h)
    all_goals (try simp only [*, if_true, if_false, ↓reduceIte, Option.bind_some, List.length_cons, List.length_nil, List.length_append, Bool.not_true, Bool.not_false, Bool.true_eq_false, Bool.false_eq_true])
    all_goals (repeat first | rw [if_pos (by omega)] | rw [if_neg (by omega)])
    all_goals first | exact h | apply h | rfl | (simp_all [-Bool.forall_bool]; done) | (simp_all [-Bool.forall_bool]; first | exact h | apply h) | (simp_all [-Bool.forall_bool, emp_eq, int_beq]; done) | (simp_all [-Bool.forall_bool]; (intros; simp_all; done)) | (simp_all [-Bool.forall_bool, rdset3, rdset96, rdset108, rdset88, rdset4, rdset53]; done) | grind
theorem impl_knotsOf.rel (k : Nat) (l0_0 : List (S88)) (a1 : Int) (r) (h : PK.impl_knotsOf.f k l0_0 a1 = some r) (m : Nat) (hm : k ≤ m) : impl_knotsOf.f m l0_0 a1 = some r := by
  have il0 := fun k' (_ : k' < k + 1) => (impl_knotsOf.rel_l k')
  rw [PK.impl_knotsOf.f] at h
  rw [impl_knotsOf.f]
  try simp only [w64_eq, wu8_eq, gt_iff_lt, ge_iff_le, int_beq, fdiv33, fdiv45, bt_eq, tmodN, rdOfB, rdOfL] at h
  try simp only [shlR]
  try simp only [w64_eq, wu8_eq, gt_iff_lt, ge_iff_le, int_beq, fdiv33, fdiv45, bt_eq, tmodN, rdOfB, rdOfL, rdT3_eq, seq, maxI, minI, emp_eq, rdn3, rdn96, rdn108, rdn88, rdn4, rdn53]
  refine (bnE h (fun _ g h => (fun g => (itE h (fun q h => (itE h (fun q h => (itE h (fun q h => ((fun h => ?_) (il0 _ (by omega) _ _ _ _ _ _ h m (by omega)))) (fun q h => (noE h)))) (fun q h => (noE h)))) (fun q h => ?_))) (impl_isRoot.rel m _ _ _ g m (by omega))))
  all_goals clear il0
  all_goals (try cases h)
  all_goals (try simp only [*, if_true, if_false, ↓reduceIte, Option.bind_some, List.length_cons, List.length_nil, List.length_append, Bool.not_true, Bool.not_false, Bool.true_eq_false, Bool.false_eq_true])
  all_goals (repeat first | rw [if_pos (by omega)] | rw [if_neg (by omega)])
  all_goals first | exact h | apply h | rfl | (simp_all [-Bool.forall_bool]; done) | (simp_all [-Bool.forall_bool]; first | exact h | apply h) | (simp_all [-Bool.forall_bool, emp_eq, int_beq]; done) | (simp_all [-Bool.forall_bool]; (intros; simp_all; done)) | (simp_all [-Bool.forall_bool, rdset3, rdset96, rdset108, rdset88, rdset4, rdset53]; done) | grind

theorem impl_StoreOk.rel_l (k : Nat) : (∀ x3 x27 x28 x29 x518000 x518001 x518002 r, PK.impl_StoreOk.l0 k x3 x27 x28 x29 x518000 x518001 x518002 = some r → ∀ m, k ≤ m → impl_StoreOk.c5 m x27 x28 x29 x518000 x518001 x518002 x3 = some r) ∧ (∀ x3 x77 x78 x79 x518000 x518001 x518002 r, PK.impl_StoreOk.l1 k x3 x77 x78 x79 x518000 x518001 x518002 = some r → ∀ m, k ≤ m → impl_StoreOk.c12 m x77 x78 x79 x518000 x518001 x518002 x3 = some r) ∧ (∀ x3 x77 x78 x79 x89 x90 x91 x518000 x518001 x518002 x552000 x552001 r, PK.impl_StoreOk.l2 k x3 x77 x78 x79 x89 x90 x91 x518000 x518001 x518002 x552000 x552001 = some r → ∀ m, k ≤ m → impl_StoreOk.c17 m x77 x78 x79 x89 x90 x91 x518000 x518001 x518002 x3 x552000 x552001 = some r) := by
  induction k using Nat.strongRecOn with
  | _ k ih =>
  have il0 := fun k' hk' => (ih k' hk').1
  have il1 := fun k' hk' => (ih k' hk').2.1
  have il2 := fun k' hk' => (ih k' hk').2.2
  clear ih
  refine ⟨?_, ?_, ?_⟩
  · intro x3 x27 x28 x29 x518000 x518001 x518002 r h m hm
    cases k with
    | zero => simp only [PK.impl_StoreOk.l0] at h; cases h
    | succ k =>
      obtain ⟨m, rfl⟩ : ∃ m', m = m' + 1 := ⟨m - 1, by omega⟩
      rw [PK.impl_StoreOk.l0] at h
      rw [impl_StoreOk.c5]
      try simp only [w64_eq, wu8_eq, gt_iff_lt, ge_iff_le, int_beq, fdiv33, fdiv45, bt_eq, tmodN, rdOfB, rdOfL] at h
      try simp only [shlR]
      try simp only [w64_eq, wu8_eq, gt_iff_lt, ge_iff_le, int_beq, fdiv33, fdiv45, bt_eq, tmodN, rdOfB, rdOfL, rdT3_eq, seq, maxI, minI, emp_eq, rdn3, rdn96, rdn108, rdn88, rdn4, rdn53]
      refine (itE h (fun q h => (itE h (fun q h => (itE h (fun q h => (bnE h (fun _ g h => (fun g => (itE h (fun q h => (itE h (fun q h => (itE h (fun q h => (itE h (fun q h => (itE h (fun q h => ?_) (fun q h => (itE h (fun q h => (bnE h (fun _ g h => (fun g => (itE h (fun q h => ((fun h => ?_) (il0 _ (by omega) _ _ _ _ _ _ _ _ h m (by omega)))) (fun q h => (noE h)))) (impl_knotsOf.rel _ _ _ _ g m (by omega))))) (fun q h => (bnE h (fun _ g h => (fun g => (itE h (fun q h => (bnE h (fun _ g h => (fun g => (itE h (fun q h => ((fun h => ?_) (il0 _ (by omega) _ _ _ _ _ _ _ _ h m (by omega)))) (fun q h => (noE h)))) (impl_knotsOf.rel _ _ _ _ g m (by omega))))) (fun q h => ?_))) (impl_isRoot.rel m _ _ _ g m (by omega))))))))) (fun q h => (noE h)))) (fun q h => (noE h)))) (fun q h => (itE h (fun q h => (bnE h (fun _ g h => (fun g => (itE h (fun q h => ((fun h => ?_) (il0 _ (by omega) _ _ _ _ _ _ _ _ h m (by omega)))) (fun q h => (noE h)))) (impl_knotsOf.rel _ _ _ _ g m (by omega))))) (fun q h => (bnE h (fun _ g h => (fun g => (itE h (fun q h => (bnE h (fun _ g h => (fun g => (itE h (fun q h => ((fun h => ?_) (il0 _ (by omega) _ _ _ _ _ _ _ _ h m (by omega)))) (fun q h => (noE h)))) (impl_knotsOf.rel _ _ _ _ g m (by omega))))) (fun q h => ?_))) (impl_isRoot.rel m _ _ _ g m (by omega))))))))) (fun q h => ?_))) (impl_in.rel m _ _ _ _ g m (by omega))))) (fun q h => (noE h)))) (fun q h => (noE h)))) (fun q h => ((fun h => ?_) (il1 _ (by omega) _ _ _ _ _ _ _ _ h m (by omega)))))
      all_goals clear il0 il1 il2
      all_goals (try cases h)
      all_goals (try simp only [*, if_true, if_false, ↓reduceIte, Option.bind_some, List.length_cons, List.length_nil, List.length_append, Bool.not_true, Bool.not_false, Bool.true_eq_false, Bool.false_eq_true])
      all_goals (repeat first | rw [if_pos (by omega)] | rw [if_neg (by omega)])
      all_goals first | exact h | apply h | rfl | (simp_all [-Bool.forall_bool]; done) | (simp_all [-Bool.forall_bool]; first | exact h | apply h) | (simp_all [-Bool.forall_bool, emp_eq, int_beq]; done) | (simp_all [-Bool.forall_bool]; (intros; simp_all; done)) | (simp_all [-Bool.forall_bool, rdset3, rdset96, rdset108, rdset88, rdset4, rdset53]; done) | grind
  · intro x3 x77 x78 x79 x518000 x518001 x518002 r h m hm
    cases k with
    | zero => simp only [PK.impl_StoreOk.l1] at h; cases h
    | succ k =>
      obtain ⟨m, rfl⟩ : ∃ m', m = m' + 1 := ⟨m - 1, by omega⟩
      rw [PK.impl_StoreOk.l1] at h
      rw [impl_StoreOk.c12]
      try simp only [w64_eq, wu8_eq, gt_iff_lt, ge_iff_le, int_beq, fdiv33, fdiv45, bt_eq, tmodN, rdOfB, rdOfL] at h
      try simp only [shlR]
      try simp only [w64_eq, wu8_eq, gt_iff_lt, ge_iff_le, int_beq, fdiv33, fdiv45, bt_eq, tmodN, rdOfB, rdOfL, rdT3_eq, seq, maxI, minI, emp_eq, rdn3, rdn96, rdn108, rdn88, rdn4, rdn53]
      refine (itE h (fun q h => (itE h (fun q h => (itE h (fun q h => (bnE h (fun _ g h => (fun g => (itE h (fun q h => ((fun h => ?_) (il2 _ (by omega) _ _ _ _ _ _ _ _ _ _ _ _ _ h m (by omega)))) (fun q h => ?_))) (impl_hasInt.rel _ _ _ _ g m (by omega))))) (fun q h => (noE h)))) (fun q h => (noE h)))) (fun q h => ?_))
      all_goals clear il0 il1 il2
      all_goals (try cases h)
      all_goals (try simp only [*, if_true, if_false, ↓reduceIte, Option.bind_some, List.length_cons, List.length_nil, List.length_append, Bool.not_true, Bool.not_false, Bool.true_eq_false, Bool.false_eq_true])
      all_goals (repeat first | rw [if_pos (by omega)] | rw [if_neg (by omega)])
      all_goals first | exact h | apply h | rfl | (simp_all [-Bool.forall_bool]; done) | (simp_all [-Bool.forall_bool]; first | exact h | apply h) | (simp_all [-Bool.forall_bool, emp_eq, int_beq]; done) | (simp_all [-Bool.forall_bool]; (intros; simp_all; done)) | (simp_all [-Bool.forall_bool, rdset3, rdset96, rdset108, rdset88, rdset4, rdset53]; done) | grind
  · intro x3 x77 x78 x79 x89 x90 x91 x518000 x518001 x518002 x552000 x552001 r h m hm
    cases k with
    | zero => simp only [PK.impl_StoreOk.l2] at h; cases h
    | succ k =>
      obtain ⟨m, rfl⟩ : ∃ m', m = m' + 1 := ⟨m - 1, by omega⟩
      rw [PK.impl_StoreOk.l2] at h
      rw [impl_StoreOk.c17]
      try simp only [w64_eq, wu8_eq, gt_iff_lt, ge_iff_le, int_beq, fdiv33, fdiv45, bt_eq, tmodN, rdOfB, rdOfL] at h
      try simp only [shlR]
      try simp only [w64_eq, wu8_eq, gt_iff_lt, ge_iff_le, int_beq, fdiv33, fdiv45, bt_eq, tmodN, rdOfB, rdOfL, rdT3_eq, seq, maxI, minI, emp_eq, rdn3, rdn96, rdn108, rdn88, rdn4, rdn53]
      refine (itE h (fun q h => (itE h (fun q h => (itE h (fun q h => (itE h (fun q h => (itE h (fun q h => ?_) (fun q h => ((fun h => ?_) (il2 _ (by omega) _ _ _ _ _ _ _ _ _ _ _ _ _ h m (by omega)))))) (fun q h => ((fun h => ?_) (il2 _ (by omega) _ _ _ _ _ _ _ _ _ _ _ _ _ h m (by omega)))))) (fun q h => (noE h)))) (fun q h => (noE h)))) (fun q h => ((fun h => ?_) (il1 _ (by omega) _ _ _ _ _ _ _ _ h m (by omega)))))
      all_goals clear il0 il1 il2
      all_goals (try cases h)
      all_goals (try simp only [*, if_true, if_false, ↓reduceIte, Option.bind_some, List.length_cons, List.length_nil, List.length_append, Bool.not_true, Bool.not_false, Bool.true_eq_false, Bool.false_eq_true])
      all_goals (repeat first | rw [if_pos (by omega)] | rw [if_neg (by omega)])
      all_goals first | exact h | apply h | rfl | (simp_all [-Bool.forall_bool]; done) | (simp_all [-Bool.forall_bool]; first | exact h | apply h) | (simp_all [-Bool.forall_bool, emp_eq, int_beq]; done) | (simp_all [-Bool.forall_bool]; (intros; simp_all; done)) | (simp_all [-Bool.forall_bool, rdset3, rdset96, rdset108, rdset88, rdset4, rdset53]; done) | grind
theorem impl_StoreOk.rel (k : Nat) (l0_0 : List (S53)) (l0_1 : List (S88)) (a0_2 : Int) (r) (h : PK.impl_StoreOk.f k l0_0 l0_1 a0_2 = some r) (m : Nat) (hm : k ≤ m) : impl_StoreOk.f m l0_0 l0_1 a0_2 = some r := by
  have il0 := fun k' (_ : k' < k + 1) => (impl_StoreOk.rel_l k').1
  have il1 := fun k' (_ : k' < k + 1) => (impl_StoreOk.rel_l k').2.1
  have il2 := fun k' (_ : k' < k + 1) => (impl_StoreOk.rel_l k').2.2
  rw [PK.impl_StoreOk.f] at h
  rw [impl_StoreOk.f]
  try simp only [w64_eq, wu8_eq, gt_iff_lt, ge_iff_le, int_beq, fdiv33, fdiv45, bt_eq, tmodN, rdOfB, rdOfL] at h
  try simp only [shlR]
  try simp only [w64_eq, wu8_eq, gt_iff_lt, ge_iff_le, int_beq, fdiv33, fdiv45, bt_eq, tmodN, rdOfB, rdOfL, rdT3_eq, seq, maxI, minI, emp_eq, rdn3, rdn96, rdn108, rdn88, rdn4, rdn53]
  refine (itE h (fun q h => (by cases k with | zero => (simp only [PK.impl_StoreOk.j0] at h; cases h) | succ k => (rw [PK.impl_StoreOk.j0] at h; (try simp only [w64_eq, wu8_eq, gt_iff_lt, ge_iff_le, int_beq, fdiv33, fdiv45, bt_eq, tmodN, rdOfB, rdOfL] at h); refine (itE h (fun q h => ?_) (fun q h => ((fun h => ?_) (il0 _ (by omega) _ _ _ _ _ _ _ _ h m (by omega))))) <;> ((try cases h); (try simp only [*, if_true, if_false, ↓reduceIte, Option.bind_some, List.length_cons, List.length_nil, List.length_append, Bool.not_true, Bool.not_false, Bool.true_eq_false, Bool.false_eq_true]); all_goals (repeat first | rw [if_pos (by omega)] | rw [if_neg (by omega)]); all_goals (first | exact h | apply h | rfl | (simp_all [-Bool.forall_bool]; done) | (simp_all [-Bool.forall_bool]; first | exact h | apply h) | (simp_all [-Bool.forall_bool, emp_eq, int_beq]; done) | (simp_all [-Bool.forall_bool]; (intros; simp_all; done)) | (simp_all [-Bool.forall_bool, rdset3, rdset96, rdset108, rdset88, rdset4, rdset53]; done) | grind))))) (fun q h => (bnE h (fun _ g h => (fun g => (itE h (fun q h => (bnE h (fun _ g h => (fun g => (by cases k with | zero => (simp only [PK.impl_StoreOk.j0] at h; cases h) | succ k => (rw [PK.impl_StoreOk.j0] at h; (try simp only [w64_eq, wu8_eq, gt_iff_lt, ge_iff_le, int_beq, fdiv33, fdiv45, bt_eq, tmodN, rdOfB, rdOfL] at h); refine (itE h (fun q h => ?_) (fun q h => ((fun h => ?_) (il0 _ (by omega) _ _ _ _ _ _ _ _ h m (by omega))))) <;> ((try cases h); (try simp only [*, if_true, if_false, ↓reduceIte, Option.bind_some, List.length_cons, List.length_nil, List.length_append, Bool.not_true, Bool.not_false, Bool.true_eq_false, Bool.false_eq_true]); all_goals (repeat first | rw [if_pos (by omega)] | rw [if_neg (by omega)]); all_goals (first | exact h | apply h | rfl | (simp_all [-Bool.forall_bool]; done) | (simp_all [-Bool.forall_bool]; first | exact h | apply h) | (simp_all [-Bool.forall_bool, emp_eq, int_beq]; done) | (simp_all [-Bool.forall_bool]; (intros; simp_all; done)) | (simp_all [-Bool.forall_bool, rdset3, rdset96, rdset108, rdset88, rdset4, rdset53]; done) | grind))))) (impl_in.rel m _ _ _ _ g m (by omega))))) (fun q h => (by cases k with | zero => (simp only [PK.impl_StoreOk.j0] at h; cases h) | succ k => (rw [PK.impl_StoreOk.j0] at h; (try simp only [w64_eq, wu8_eq, gt_iff_lt, ge_iff_le, int_beq, fdiv33, fdiv45, bt_eq, tmodN, rdOfB, rdOfL] at h); refine (itE h (fun q h => ?_) (fun q h => ((fun h => ?_) (il0 _ (by omega) _ _ _ _ _ _ _ _ h m (by omega))))) <;> ((try cases h); (try simp only [*, if_true, if_false, ↓reduceIte, Option.bind_some, List.length_cons, List.length_nil, List.length_append, Bool.not_true, Bool.not_false, Bool.true_eq_false, Bool.false_eq_true]); all_goals (repeat first | rw [if_pos (by omega)] | rw [if_neg (by omega)]); all_goals (first | exact h | apply h | rfl | (simp_all [-Bool.forall_bool]; done) | (simp_all [-Bool.forall_bool]; first | exact h | apply h) | (simp_all [-Bool.forall_bool, emp_eq, int_beq]; done) | (simp_all [-Bool.forall_bool]; (intros; simp_all; done)) | (simp_all [-Bool.forall_bool, rdset3, rdset96, rdset108, rdset88, rdset4, rdset53]; done) | grind))))))) (impl_ArenaOk.rel _ _ _ g m (by omega))))))
  all_goals clear il0 il1 il2
  all_goals (try cases h)
  all_goals (try simp only [*, if_true, if_false, ↓reduceIte, Option.bind_some, List.length_cons, List.length_nil, List.length_append, Bool.not_true, Bool.not_false, Bool.true_eq_false, Bool.false_eq_true])
  all_goals (repeat first | rw [if_pos (by omega)] | rw [if_neg (by omega)])
  all_goals first | exact h | apply h | rfl | (simp_all [-Bool.forall_bool]; done) | (simp_all [-Bool.forall_bool]; first | exact h | apply h) | (simp_all [-Bool.forall_bool, emp_eq, int_beq]; done) | (simp_all [-Bool.forall_bool]; (intros; simp_all; done)) | (simp_all [-Bool.forall_bool, rdset3, rdset96, rdset108, rdset88, rdset4, rdset53]; done) | grind
end Go.Proofs.Yteideicglgpfiaa.M2

/- What the print's plain functions answer, the own ones answer. Written by a program of this session. -/
namespace Go.Proofs.Yteideicglgpfiaa.M2
open Go Go.RowKit Go.Proofs.YteideicglgpfiaaW.PrintWords Go.Proofs.Yteideicglgpfiaa.PK
set_option linter.unusedVariables false
set_option linter.unusedSimpArgs false
theorem impl_copyInts.rel (k : Nat) (l0 : List Int) (r) (h : PK.impl_copyInts.f l0 = some r) (m : Nat) (hm : k ≤ m) : impl_copyInts.f m l0 = some r := by
  rw [PK.impl_copyInts.f] at h
  rw [impl_copyInts.f]
  try simp only [w64_eq, wu8_eq, gt_iff_lt, ge_iff_le, int_beq, fdiv33, fdiv45, bt_eq, tmodN, rdOfB, rdOfL] at h
  try simp only [shlR]
  try simp only [w64_eq, wu8_eq, gt_iff_lt, ge_iff_le, int_beq, fdiv33, fdiv45, bt_eq, tmodN, rdOfB, rdOfL, rdT3_eq, seq, maxI, minI, emp_eq, rdn3, rdn96, rdn108, rdn88, rdn4, rdn53]
  refine (itE h (fun q h => ?_) (fun q h => (noE h)))
  all_goals (try cases h)
  all_goals (try simp only [*, if_true, if_false, ↓reduceIte, Option.bind_some, List.length_cons, List.length_nil, List.length_append, Bool.not_true, Bool.not_false, Bool.true_eq_false, Bool.false_eq_true])
  all_goals (repeat first | rw [if_pos (by omega)] | rw [if_neg (by omega)])
  all_goals first | exact h | apply h | rfl | (simp_all [-Bool.forall_bool]; done) | (simp_all [-Bool.forall_bool]; first | exact h | apply h) | (simp_all [-Bool.forall_bool, emp_eq, int_beq]; done) | (simp_all [-Bool.forall_bool]; (intros; simp_all; done)) | (simp_all [-Bool.forall_bool, rdset3, rdset96, rdset108, rdset88, rdset4, rdset53]; done) | grind

theorem impl_copyArena.rel_l (k : Nat) : (∀ x7 x8 x9 x560000 r, PK.impl_copyArena.l0 k x7 x8 x9 x560000 = some r → ∀ m, k ≤ m → ∀ (h65 : List S88), impl_copyArena.c3 m x7 x8 x9 h65 x560000 = some r) := by
  induction k using Nat.strongRecOn with
  | _ k ih =>
  have il0 := fun k' hk' => (ih k' hk')
  clear ih
  intro x7 x8 x9 x560000 r h m hm h65
  cases k with
  | zero => simp only [PK.impl_copyArena.l0] at h; cases h
  | succ k =>
    obtain ⟨m, rfl⟩ : ∃ m', m = m' + 1 := ⟨m - 1, by omega⟩
    rw [PK.impl_copyArena.l0] at h
    rw [impl_copyArena.c3]
    try simp only [w64_eq, wu8_eq, gt_iff_lt, ge_iff_le, int_beq, fdiv33, fdiv45, bt_eq, tmodN, rdOfB, rdOfL] at h
    try simp only [shlR]
    try simp only [w64_eq, wu8_eq, gt_iff_lt, ge_iff_le, int_beq, fdiv33, fdiv45, bt_eq, tmodN, rdOfB, rdOfL, rdT3_eq, seq, maxI, minI, emp_eq, rdn3, rdn96, rdn108, rdn88, rdn4, rdn53]
    refine (itE h (fun q h => (itE h (fun q h => (itE h (fun q h => (bnE h (fun _ g h => (fun g => (itE h (fun q h => ((fun h => ?_) (il0 _ (by omega) _ _ _ _ _ h m (by omega)))) (fun q h => (noE h)))) (impl_copyInts.rel m _ _ g m (by omega))))) (fun q h => (noE h)))) (fun q h => (noE h)))) (fun q h => ?_))
    all_goals clear il0
    all_goals (try cases h)
    all_goals (try simp only [*, if_true, if_false, ↓reduceIte, Option.bind_some, List.length_cons, List.length_nil, List.length_append, Bool.not_true, Bool.not_false, Bool.true_eq_false, Bool.false_eq_true])
    all_goals (repeat first | rw [if_pos (by omega)] | rw [if_neg (by omega)])
    all_goals first | exact h | apply h | rfl | (simp_all [-Bool.forall_bool]; done) | (simp_all [-Bool.forall_bool]; first | exact h | apply h) | (simp_all [-Bool.forall_bool, emp_eq, int_beq]; done) | (simp_all [-Bool.forall_bool]; (intros; simp_all; done)) | (simp_all [-Bool.forall_bool, rdset3, rdset96, rdset108, rdset88, rdset4, rdset53]; done) | grind
theorem impl_copyArena.rel (k : Nat) (l0_0 : List (S88)) (r) (h : PK.impl_copyArena.f k l0_0 = some r) (m : Nat) (hm : k ≤ m) : impl_copyArena.f m l0_0 = some r := by
  have il0 := fun k' (_ : k' < k + 1) => (impl_copyArena.rel_l k')
  rw [PK.impl_copyArena.f] at h
  rw [impl_copyArena.f]
  try simp only [w64_eq, wu8_eq, gt_iff_lt, ge_iff_le, int_beq, fdiv33, fdiv45, bt_eq, tmodN, rdOfB, rdOfL] at h
  try simp only [shlR]
  try simp only [w64_eq, wu8_eq, gt_iff_lt, ge_iff_le, int_beq, fdiv33, fdiv45, bt_eq, tmodN, rdOfB, rdOfL, rdT3_eq, seq, maxI, minI, emp_eq, rdn3, rdn96, rdn108, rdn88, rdn4, rdn53]
  refine ((fun h => ?_) (il0 _ (by omega) _ _ _ _ _ h m (by omega)))
  all_goals clear il0
  all_goals (try cases h)
  all_goals (try simp only [*, if_true, if_false, ↓reduceIte, Option.bind_some, List.length_cons, List.length_nil, List.length_append, Bool.not_true, Bool.not_false, Bool.true_eq_false, Bool.false_eq_true])
  all_goals (repeat first | rw [if_pos (by omega)] | rw [if_neg (by omega)])
  all_goals first | exact h | apply h | rfl | (simp_all [-Bool.forall_bool]; done) | (simp_all [-Bool.forall_bool]; first | exact h | apply h) | (simp_all [-Bool.forall_bool, emp_eq, int_beq]; done) | (simp_all [-Bool.forall_bool]; (intros; simp_all; done)) | (simp_all [-Bool.forall_bool, rdset3, rdset96, rdset108, rdset88, rdset4, rdset53]; done) | grind

theorem impl_SweepArena.rel_l (k : Nat) : (∀ x1 x6 x7 x21 x22 x23 x655000 r, PK.impl_SweepArena.l0 k x1 x6 x7 x21 x22 x23 x655000 = some r → ∀ m, k ≤ m → ∀ (h66 : List S88), impl_SweepArena.c4 m x1 x21 x22 x23 x655000 h66 x6 x7 = some (r.1, r.2)) ∧ (∀ x1 x6 x7 x11 x55 x56 x57 x675000 r, PK.impl_SweepArena.l1 k x1 x6 x7 x11 x55 x56 x57 x675000 = some r → ∀ m, k ≤ m → ∀ (h65 : List S88), impl_SweepArena.c15 m x1 x55 x56 x57 h65 x6 x7 x675000 x11 = some (r.1, r.2)) ∧ (∀ x1 x6 x7 x11 x55 x56 x57 x79 x80 x81 x675000 x680000 x680001 x686000 x686001 r, PK.impl_SweepArena.l2 k x1 x6 x7 x11 x55 x56 x57 x79 x80 x81 x675000 x680000 x680001 x686000 x686001 = some r → ∀ m, k ≤ m → ∀ (h65 : List S88), impl_SweepArena.c21 m x1 x55 x56 x57 x79 x80 x81 h65 x6 x7 (x675000) x11 x680000 x680001 x686001 x686000 = some (r.1, r.2)) ∧ (∀ x6 x11 x109 x110 x111 x675000 r, PK.impl_SweepArena.l3 k x6 x11 x109 x110 x111 x675000 = some r → ∀ m, k ≤ m → ∀ (h65 : List S88), impl_SweepArena.c29 m x109 x110 x111 h65 x6 x675000 x11 = some (r.1, r.2)) := by
  induction k using Nat.strongRecOn with
  | _ k ih =>
  have il0 := fun k' hk' => (ih k' hk').1
  have il1 := fun k' hk' => (ih k' hk').2.1
  have il2 := fun k' hk' => (ih k' hk').2.2.1
  have il3 := fun k' hk' => (ih k' hk').2.2.2
  clear ih
  refine ⟨?_, ?_, ?_, ?_⟩
  · intro x1 x6 x7 x21 x22 x23 x655000 r h m hm h66
    cases k with
    | zero => simp only [PK.impl_SweepArena.l0] at h; cases h
    | succ k =>
      obtain ⟨m, rfl⟩ : ∃ m', m = m' + 1 := ⟨m - 1, by omega⟩
      rw [PK.impl_SweepArena.l0] at h
      rw [impl_SweepArena.c4]
      try simp only [w64_eq, wu8_eq, gt_iff_lt, ge_iff_le, int_beq, fdiv33, fdiv45, bt_eq, tmodN, rdOfB, rdOfL] at h
      try simp only [shlR]
      try simp only [w64_eq, wu8_eq, gt_iff_lt, ge_iff_le, int_beq, fdiv33, fdiv45, bt_eq, tmodN, rdOfB, rdOfL, rdT3_eq, seq, maxI, minI, emp_eq, rdn3, rdn96, rdn108, rdn88, rdn4, rdn53]
      refine (itE h (fun q h => (itE h (fun q h => (itE h (fun q h => (itE h (fun q h => (by cases k with | zero => (simp only [PK.impl_SweepArena.j1] at h; cases h) | succ k => (rw [PK.impl_SweepArena.j1] at h; (try simp only [w64_eq, wu8_eq, gt_iff_lt, ge_iff_le, int_beq, fdiv33, fdiv45, bt_eq, tmodN, rdOfB, rdOfL] at h); refine (itE h (fun q h => (bnE h (fun _ g h => (fun g => ?_) (impl_copyArena.rel _ _ _ g m (by omega))))) (fun q h => (bnE h (fun _ g h => (fun g => (itE h (fun q h => ((fun h => ?_) (il0 _ (by omega) _ _ _ _ _ _ _ _ h m (by omega)))) (fun q h => (noE h)))) (impl_knotsOf.rel _ _ _ _ g m (by omega)))))) <;> ((try cases h); (try simp only [*, if_true, if_false, ↓reduceIte, Option.bind_some, List.length_cons, List.length_nil, List.length_append, Bool.not_true, Bool.not_false, Bool.true_eq_false, Bool.false_eq_true]); all_goals (repeat first | rw [if_pos (by omega)] | rw [if_neg (by omega)]); all_goals (first | exact h | apply h | rfl | (simp_all [-Bool.forall_bool]; done) | (simp_all [-Bool.forall_bool]; first | exact h | apply h) | (simp_all [-Bool.forall_bool, emp_eq, int_beq]; done) | (simp_all [-Bool.forall_bool]; (intros; simp_all; done)) | (simp_all [-Bool.forall_bool, rdset3, rdset96, rdset108, rdset88, rdset4, rdset53]; done) | grind))))) (fun q h => (bnE h (fun _ g h => (fun g => (by cases k with | zero => (simp only [PK.impl_SweepArena.j1] at h; cases h) | succ k => (rw [PK.impl_SweepArena.j1] at h; (try simp only [w64_eq, wu8_eq, gt_iff_lt, ge_iff_le, int_beq, fdiv33, fdiv45, bt_eq, tmodN, rdOfB, rdOfL] at h); refine (itE h (fun q h => (bnE h (fun _ g h => (fun g => ?_) (impl_copyArena.rel _ _ _ g m (by omega))))) (fun q h => (bnE h (fun _ g h => (fun g => (itE h (fun q h => ((fun h => ?_) (il0 _ (by omega) _ _ _ _ _ _ _ _ h m (by omega)))) (fun q h => (noE h)))) (impl_knotsOf.rel _ _ _ _ g m (by omega)))))) <;> ((try cases h); (try simp only [*, if_true, if_false, ↓reduceIte, Option.bind_some, List.length_cons, List.length_nil, List.length_append, Bool.not_true, Bool.not_false, Bool.true_eq_false, Bool.false_eq_true]); all_goals (repeat first | rw [if_pos (by omega)] | rw [if_neg (by omega)]); all_goals (first | exact h | apply h | rfl | (simp_all [-Bool.forall_bool]; done) | (simp_all [-Bool.forall_bool]; first | exact h | apply h) | (simp_all [-Bool.forall_bool, emp_eq, int_beq]; done) | (simp_all [-Bool.forall_bool]; (intros; simp_all; done)) | (simp_all [-Bool.forall_bool, rdset3, rdset96, rdset108, rdset88, rdset4, rdset53]; done) | grind))))) (impl_isRoot.rel m _ _ _ g m (by omega))))))) (fun q h => (noE h)))) (fun q h => (noE h)))) (fun q h => (bnE h (fun _ g h => (fun g => (itE h (fun q h => (itE h (fun q h => (itE h (fun q h => ((fun h => ?_) (il1 _ (by omega) _ _ _ _ _ _ _ _ _ h m (by omega)))) (fun q h => (noE h)))) (fun q h => (noE h)))) (fun q h => (bnE h (fun _ g h => (fun g => ?_) (impl_copyArena.rel _ _ _ g m (by omega))))))) (impl_ArenaOk.rel _ _ _ g m (by omega))))))
      all_goals clear il0 il1 il2 il3
      all_goals (try cases h)
      all_goals (try simp only [*, if_true, if_false, ↓reduceIte, Option.bind_some, List.length_cons, List.length_nil, List.length_append, Bool.not_true, Bool.not_false, Bool.true_eq_false, Bool.false_eq_true])
      all_goals (repeat first | rw [if_pos (by omega)] | rw [if_neg (by omega)])
      all_goals first | exact h | apply h | rfl | (simp_all [-Bool.forall_bool]; done) | (simp_all [-Bool.forall_bool]; first | exact h | apply h) | (simp_all [-Bool.forall_bool, emp_eq, int_beq]; done) | (simp_all [-Bool.forall_bool]; (intros; simp_all; done)) | (simp_all [-Bool.forall_bool, rdset3, rdset96, rdset108, rdset88, rdset4, rdset53]; done) | grind
  · intro x1 x6 x7 x11 x55 x56 x57 x675000 r h m hm h65
    cases k with
    | zero => simp only [PK.impl_SweepArena.l1] at h; cases h
    | succ k =>
      obtain ⟨m, rfl⟩ : ∃ m', m = m' + 1 := ⟨m - 1, by omega⟩
      rw [PK.impl_SweepArena.l1] at h
      rw [impl_SweepArena.c15]
      try simp only [w64_eq, wu8_eq, gt_iff_lt, ge_iff_le, int_beq, fdiv33, fdiv45, bt_eq, tmodN, rdOfB, rdOfL] at h
      try simp only [shlR]
      try simp only [w64_eq, wu8_eq, gt_iff_lt, ge_iff_le, int_beq, fdiv33, fdiv45, bt_eq, tmodN, rdOfB, rdOfL, rdT3_eq, seq, maxI, minI, emp_eq, rdn3, rdn96, rdn108, rdn88, rdn4, rdn53]
      refine (itE h (fun q h => (itE h (fun q h => (itE h (fun q h => (bnE h (fun _ g h => (fun g => (itE h (fun q h => (itE h (fun q h => (bnE h (fun _ g h => (fun g => ((fun h => ?_) (il2 _ (by omega) _ _ _ _ _ _ _ _ _ _ _ _ _ _ _ _ h m (by omega)))) (impl_copyInts.rel m _ _ g m (by omega))))) (fun q h => (noE h)))) (fun q h => ((fun h => ?_) (il1 _ (by omega) _ _ _ _ _ _ _ _ _ h m (by omega)))))) (impl_hasInt.rel _ _ _ _ g m (by omega))))) (fun q h => (noE h)))) (fun q h => (noE h)))) (fun q h => ((fun h => ?_) (il3 _ (by omega) _ _ _ _ _ _ _ h m (by omega)))))
      all_goals clear il0 il1 il2 il3
      all_goals (try cases h)
      all_goals (try simp only [*, if_true, if_false, ↓reduceIte, Option.bind_some, List.length_cons, List.length_nil, List.length_append, Bool.not_true, Bool.not_false, Bool.true_eq_false, Bool.false_eq_true])
      all_goals (repeat first | rw [if_pos (by omega)] | rw [if_neg (by omega)])
      all_goals first | exact h | apply h | rfl | (simp_all [-Bool.forall_bool]; done) | (simp_all [-Bool.forall_bool]; first | exact h | apply h) | (simp_all [-Bool.forall_bool, emp_eq, int_beq]; done) | (simp_all [-Bool.forall_bool]; (intros; simp_all; done)) | (simp_all [-Bool.forall_bool, rdset3, rdset96, rdset108, rdset88, rdset4, rdset53]; done) | grind
  · intro x1 x6 x7 x11 x55 x56 x57 x79 x80 x81 x675000 x680000 x680001 x686000 x686001 r h m hm h65
    cases k with
    | zero => simp only [PK.impl_SweepArena.l2] at h; cases h
    | succ k =>
      obtain ⟨m, rfl⟩ : ∃ m', m = m' + 1 := ⟨m - 1, by omega⟩
      rw [PK.impl_SweepArena.l2] at h
      rw [impl_SweepArena.c21]
      try simp only [w64_eq, wu8_eq, gt_iff_lt, ge_iff_le, int_beq, fdiv33, fdiv45, bt_eq, tmodN, rdOfB, rdOfL] at h
      try simp only [shlR]
      try simp only [w64_eq, wu8_eq, gt_iff_lt, ge_iff_le, int_beq, fdiv33, fdiv45, bt_eq, tmodN, rdOfB, rdOfL, rdT3_eq, seq, maxI, minI, emp_eq, rdn3, rdn96, rdn108, rdn88, rdn4, rdn53]
      refine (itE h (fun q h => (itE h (fun q h => (itE h (fun q h => (itE h (fun q h => ((fun h => ?_) (il2 _ (by omega) _ _ _ _ _ _ _ _ _ _ _ _ _ _ _ _ h m (by omega)))) (fun q h => (itE h (fun q h => (itE h (fun q h => (itE h (fun q h => (itE h (fun q h => ((fun h => ?_) (il2 _ (by omega) _ _ _ _ _ _ _ _ _ _ _ _ _ _ _ _ h m (by omega)))) (fun q h => (noE h)))) (fun q h => (noE h)))) (fun q h => (noE h)))) (fun q h => ((fun h => ?_) (il2 _ (by omega) _ _ _ _ _ _ _ _ _ _ _ _ _ _ _ _ h m (by omega)))))))) (fun q h => (noE h)))) (fun q h => (noE h)))) (fun q h => (itE h (fun q h => ((fun h => ?_) (il1 _ (by omega) _ _ _ _ _ _ _ _ _ h m (by omega)))) (fun q h => (noE h)))))
      all_goals clear il0 il1 il2 il3
      all_goals (try cases h)
      all_goals (try simp only [*, if_true, if_false, ↓reduceIte, Option.bind_some, List.length_cons, List.length_nil, List.length_append, Bool.not_true, Bool.not_false, Bool.true_eq_false, Bool.false_eq_true])
      all_goals (repeat first | rw [if_pos (by omega)] | rw [if_neg (by omega)])
      all_goals first | exact h | apply h | rfl | (simp_all [-Bool.forall_bool]; done) | (simp_all [-Bool.forall_bool]; first | exact h | apply h) | (simp_all [-Bool.forall_bool, emp_eq, int_beq]; done) | (simp_all [-Bool.forall_bool]; (intros; simp_all; done)) | (simp_all [-Bool.forall_bool, rdset3, rdset96, rdset108, rdset88, rdset4, rdset53]; done) | grind
  · intro x6 x11 x109 x110 x111 x675000 r h m hm h65
    cases k with
    | zero => simp only [PK.impl_SweepArena.l3] at h; cases h
    | succ k =>
      obtain ⟨m, rfl⟩ : ∃ m', m = m' + 1 := ⟨m - 1, by omega⟩
      rw [PK.impl_SweepArena.l3] at h
      rw [impl_SweepArena.c29]
      try simp only [w64_eq, wu8_eq, gt_iff_lt, ge_iff_le, int_beq, fdiv33, fdiv45, bt_eq, tmodN, rdOfB, rdOfL] at h
      try simp only [shlR]
      try simp only [w64_eq, wu8_eq, gt_iff_lt, ge_iff_le, int_beq, fdiv33, fdiv45, bt_eq, tmodN, rdOfB, rdOfL, rdT3_eq, seq, maxI, minI, emp_eq, rdn3, rdn96, rdn108, rdn88, rdn4, rdn53]
      refine (itE h (fun q h => (itE h (fun q h => (itE h (fun q h => (itE h (fun q h => (itE h (fun q h => (itE h (fun q h => (itE h (fun q h => ((fun h => ?_) (il3 _ (by omega) _ _ _ _ _ _ _ h m (by omega)))) (fun q h => (noE h)))) (fun q h => (noE h)))) (fun q h => (noE h)))) (fun q h => ((fun h => ?_) (il3 _ (by omega) _ _ _ _ _ _ _ h m (by omega)))))) (fun q h => (noE h)))) (fun q h => (noE h)))) (fun q h => ?_))
      all_goals clear il0 il1 il2 il3
      all_goals (try cases h)
      all_goals (try simp only [*, if_true, if_false, ↓reduceIte, Option.bind_some, List.length_cons, List.length_nil, List.length_append, Bool.not_true, Bool.not_false, Bool.true_eq_false, Bool.false_eq_true])
      all_goals (repeat first | rw [if_pos (by omega)] | rw [if_neg (by omega)])
      all_goals first | exact h | apply h | rfl | (simp_all [-Bool.forall_bool]; done) | (simp_all [-Bool.forall_bool]; first | exact h | apply h) | (simp_all [-Bool.forall_bool, emp_eq, int_beq]; done) | (simp_all [-Bool.forall_bool]; (intros; simp_all; done)) | (simp_all [-Bool.forall_bool, rdset3, rdset96, rdset108, rdset88, rdset4, rdset53]; done) | grind
theorem impl_SweepArena.rel (k : Nat) (l0_0 : List (S88)) (l1 : List Int) (r) (h : PK.impl_SweepArena.f k l0_0 l1 = some r) (m : Nat) (hm : k ≤ m) : impl_SweepArena.f m l0_0 l1 = some (r.1, r.2) := by
  have il0 := fun k' (_ : k' < k + 1) => (impl_SweepArena.rel_l k').1
  have il1 := fun k' (_ : k' < k + 1) => (impl_SweepArena.rel_l k').2.1
  have il2 := fun k' (_ : k' < k + 1) => (impl_SweepArena.rel_l k').2.2.1
  have il3 := fun k' (_ : k' < k + 1) => (impl_SweepArena.rel_l k').2.2.2
  rw [PK.impl_SweepArena.f] at h
  rw [impl_SweepArena.f]
  try simp only [w64_eq, wu8_eq, gt_iff_lt, ge_iff_le, int_beq, fdiv33, fdiv45, bt_eq, tmodN, rdOfB, rdOfL] at h
  try simp only [shlR]
  try simp only [w64_eq, wu8_eq, gt_iff_lt, ge_iff_le, int_beq, fdiv33, fdiv45, bt_eq, tmodN, rdOfB, rdOfL, rdT3_eq, seq, maxI, minI, emp_eq, rdn3, rdn96, rdn108, rdn88, rdn4, rdn53]
  refine (bnE h (fun _ g h => (fun g => ((fun h => ?_) (il0 _ (by omega) _ _ _ _ _ _ _ _ h m (by omega)))) (impl_copyInts.rel m _ _ g m (by omega))))
  all_goals clear il0 il1 il2 il3
  all_goals (try cases h)
  all_goals (try simp only [*, if_true, if_false, ↓reduceIte, Option.bind_some, List.length_cons, List.length_nil, List.length_append, Bool.not_true, Bool.not_false, Bool.true_eq_false, Bool.false_eq_true])
  all_goals (repeat first | rw [if_pos (by omega)] | rw [if_neg (by omega)])
  all_goals first | exact h | apply h | rfl | (simp_all [-Bool.forall_bool]; done) | (simp_all [-Bool.forall_bool]; first | exact h | apply h) | (simp_all [-Bool.forall_bool, emp_eq, int_beq]; done) | (simp_all [-Bool.forall_bool]; (intros; simp_all; done)) | (simp_all [-Bool.forall_bool, rdset3, rdset96, rdset108, rdset88, rdset4, rdset53]; done) | grind
end Go.Proofs.Yteideicglgpfiaa.M2

/- What the print's plain functions answer, the own ones answer. Written by a program of this session. -/
namespace Go.Proofs.Yteideicglgpfiaa.M2
open Go Go.RowKit Go.Proofs.YteideicglgpfiaaW.PrintWords Go.Proofs.Yteideicglgpfiaa.PK
set_option linter.unusedVariables false
set_option linter.unusedSimpArgs false
theorem laws_toIntS.rel_l (k : Nat) : (∀ x0 x3 x4 r, PK.laws_toIntS.l0 k x0 x3 x4 = some r → ∀ m, k ≤ m → laws_toIntS.c3 m x0 x4 x3 = some r) := by
  induction k using Nat.strongRecOn with
  | _ k ih =>
  have il0 := fun k' hk' => (ih k' hk')
  clear ih
  intro x0 x3 x4 r h m hm
  cases k with
  | zero => simp only [PK.laws_toIntS.l0] at h; cases h
  | succ k =>
    obtain ⟨m, rfl⟩ : ∃ m', m = m' + 1 := ⟨m - 1, by omega⟩
    rw [PK.laws_toIntS.l0] at h
    rw [laws_toIntS.c3]
    try simp only [w64_eq, wu8_eq, gt_iff_lt, ge_iff_le, int_beq, fdiv33, fdiv45, bt_eq, tmodN, rdOfB, rdOfL] at h
    try simp only [shlR]
    try simp only [w64_eq, wu8_eq, gt_iff_lt, ge_iff_le, int_beq, fdiv33, fdiv45, bt_eq, tmodN, rdOfB, rdOfL, rdT3_eq, seq, maxI, minI, emp_eq, rdn3, rdn96, rdn108, rdn88, rdn4, rdn53]
    refine (itE h (fun q h => (itE h (fun q h => (itE h (fun q h => ((fun h => ?_) (il0 _ (by omega) _ _ _ _ h m (by omega)))) (fun q h => (noE h)))) (fun q h => (noE h)))) (fun q h => ?_))
    all_goals clear il0
    all_goals (try cases h)
    all_goals (try simp only [*, if_true, if_false, ↓reduceIte, Option.bind_some, List.length_cons, List.length_nil, List.length_append, Bool.not_true, Bool.not_false, Bool.true_eq_false, Bool.false_eq_true])
    all_goals (repeat first | rw [if_pos (by omega)] | rw [if_neg (by omega)])
    all_goals first | exact h | apply h | rfl | (simp_all [-Bool.forall_bool]; done) | (simp_all [-Bool.forall_bool]; first | exact h | apply h) | (simp_all [-Bool.forall_bool, emp_eq, int_beq]; done) | (simp_all [-Bool.forall_bool]; (intros; simp_all; done)) | (simp_all [-Bool.forall_bool, rdset3, rdset96, rdset108, rdset88, rdset4, rdset53]; done) | grind
theorem laws_toIntS.rel (k : Nat) (l0 : List Int) (r) (h : PK.laws_toIntS.f k l0 = some r) (m : Nat) (hm : k ≤ m) : laws_toIntS.f m l0 = some r := by
  have il0 := fun k' (_ : k' < k + 1) => (laws_toIntS.rel_l k')
  rw [PK.laws_toIntS.f] at h
  rw [laws_toIntS.f]
  try simp only [w64_eq, wu8_eq, gt_iff_lt, ge_iff_le, int_beq, fdiv33, fdiv45, bt_eq, tmodN, rdOfB, rdOfL] at h
  try simp only [shlR]
  try simp only [w64_eq, wu8_eq, gt_iff_lt, ge_iff_le, int_beq, fdiv33, fdiv45, bt_eq, tmodN, rdOfB, rdOfL, rdT3_eq, seq, maxI, minI, emp_eq, rdn3, rdn96, rdn108, rdn88, rdn4, rdn53]
  refine (itE h (fun q h => (itE h (fun q h => ((fun h => ?_) (il0 _ (by omega) _ _ _ _ h m (by omega)))) (fun q h => (noE h)))) (fun q h => (noE h)))
  all_goals clear il0
  all_goals (try cases h)
  all_goals (try simp only [*, if_true, if_false, ↓reduceIte, Option.bind_some, List.length_cons, List.length_nil, List.length_append, Bool.not_true, Bool.not_false, Bool.true_eq_false, Bool.false_eq_true])
  all_goals (repeat first | rw [if_pos (by omega)] | rw [if_neg (by omega)])
  all_goals first | exact h | apply h | rfl | (simp_all [-Bool.forall_bool]; done) | (simp_all [-Bool.forall_bool]; first | exact h | apply h) | (simp_all [-Bool.forall_bool, emp_eq, int_beq]; done) | (simp_all [-Bool.forall_bool]; (intros; simp_all; done)) | (simp_all [-Bool.forall_bool, rdset3, rdset96, rdset108, rdset88, rdset4, rdset53]; done) | grind

theorem laws_toKnot.rel (k : Nat) (a0_0 : Bool) (l0_1 : List Int) (r) (h : PK.laws_toKnot.f k a0_0 l0_1 = some r) (m : Nat) (hm : k ≤ m) : laws_toKnot.f m a0_0 l0_1 = some (r.1, r.2) := by
  rw [PK.laws_toKnot.f] at h
  rw [laws_toKnot.f]
  try simp only [w64_eq, wu8_eq, gt_iff_lt, ge_iff_le, int_beq, fdiv33, fdiv45, bt_eq, tmodN, rdOfB, rdOfL] at h
  try simp only [shlR]
  try simp only [w64_eq, wu8_eq, gt_iff_lt, ge_iff_le, int_beq, fdiv33, fdiv45, bt_eq, tmodN, rdOfB, rdOfL, rdT3_eq, seq, maxI, minI, emp_eq, rdn3, rdn96, rdn108, rdn88, rdn4, rdn53]
  refine (bnE h (fun _ g h => (fun g => ?_) (laws_toIntS.rel _ _ _ g m (by omega))))
  all_goals (try cases h)
  all_goals (try simp only [*, if_true, if_false, ↓reduceIte, Option.bind_some, List.length_cons, List.length_nil, List.length_append, Bool.not_true, Bool.not_false, Bool.true_eq_false, Bool.false_eq_true])
  all_goals (repeat first | rw [if_pos (by omega)] | rw [if_neg (by omega)])
  all_goals first | exact h | apply h | rfl | (simp_all [-Bool.forall_bool]; done) | (simp_all [-Bool.forall_bool]; first | exact h | apply h) | (simp_all [-Bool.forall_bool, emp_eq, int_beq]; done) | (simp_all [-Bool.forall_bool]; (intros; simp_all; done)) | (simp_all [-Bool.forall_bool, rdset3, rdset96, rdset108, rdset88, rdset4, rdset53]; done) | grind

theorem laws_toKnotS.rel_l (k : Nat) : (∀ x0 x3 x4 r, PK.laws_toKnotS.l0 k x0 x3 x4 = some r → ∀ m, k ≤ m → laws_toKnotS.c3 m x0 x4 x3 = some r) := by
  induction k using Nat.strongRecOn with
  | _ k ih =>
  have il0 := fun k' hk' => (ih k' hk')
  clear ih
  intro x0 x3 x4 r h m hm
  cases k with
  | zero => simp only [PK.laws_toKnotS.l0] at h; cases h
  | succ k =>
    obtain ⟨m, rfl⟩ : ∃ m', m = m' + 1 := ⟨m - 1, by omega⟩
    rw [PK.laws_toKnotS.l0] at h
    rw [laws_toKnotS.c3]
    try simp only [w64_eq, wu8_eq, gt_iff_lt, ge_iff_le, int_beq, fdiv33, fdiv45, bt_eq, tmodN, rdOfB, rdOfL] at h
    try simp only [shlR]
    try simp only [w64_eq, wu8_eq, gt_iff_lt, ge_iff_le, int_beq, fdiv33, fdiv45, bt_eq, tmodN, rdOfB, rdOfL, rdT3_eq, seq, maxI, minI, emp_eq, rdn3, rdn96, rdn108, rdn88, rdn4, rdn53]
    refine (itE h (fun q h => (itE h (fun q h => (bnE h (fun _ g h => (fun g => (itE h (fun q h => ((fun h => ?_) (il0 _ (by omega) _ _ _ _ h m (by omega)))) (fun q h => (noE h)))) (laws_toKnot.rel _ _ _ _ g m (by omega))))) (fun q h => (noE h)))) (fun q h => ?_))
    all_goals clear il0
    all_goals (try cases h)
    all_goals (try simp only [*, if_true, if_false, ↓reduceIte, Option.bind_some, List.length_cons, List.length_nil, List.length_append, Bool.not_true, Bool.not_false, Bool.true_eq_false, Bool.false_eq_true])
    all_goals (repeat first | rw [if_pos (by omega)] | rw [if_neg (by omega)])
    all_goals first | exact h | apply h | rfl | (simp_all [-Bool.forall_bool]; done) | (simp_all [-Bool.forall_bool]; first | exact h | apply h) | (simp_all [-Bool.forall_bool, emp_eq, int_beq]; done) | (simp_all [-Bool.forall_bool]; (intros; simp_all; done)) | (simp_all [-Bool.forall_bool, rdset3, rdset96, rdset108, rdset88, rdset4, rdset53]; done) | grind
theorem laws_toKnotS.rel (k : Nat) (l0 : List (S108)) (r) (h : PK.laws_toKnotS.f k l0 = some r) (m : Nat) (hm : k ≤ m) : laws_toKnotS.f m l0 = some r := by
  have il0 := fun k' (_ : k' < k + 1) => (laws_toKnotS.rel_l k')
  rw [PK.laws_toKnotS.f] at h
  rw [laws_toKnotS.f]
  try simp only [w64_eq, wu8_eq, gt_iff_lt, ge_iff_le, int_beq, fdiv33, fdiv45, bt_eq, tmodN, rdOfB, rdOfL] at h
  try simp only [shlR]
  try simp only [w64_eq, wu8_eq, gt_iff_lt, ge_iff_le, int_beq, fdiv33, fdiv45, bt_eq, tmodN, rdOfB, rdOfL, rdT3_eq, seq, maxI, minI, emp_eq, rdn3, rdn96, rdn108, rdn88, rdn4, rdn53]
  refine (itE h (fun q h => (itE h (fun q h => ((fun h => ?_) (il0 _ (by omega) _ _ _ _ h m (by omega)))) (fun q h => (noE h)))) (fun q h => (noE h)))
  all_goals clear il0
  all_goals (try cases h)
  all_goals (try simp only [*, if_true, if_false, ↓reduceIte, Option.bind_some, List.length_cons, List.length_nil, List.length_append, Bool.not_true, Bool.not_false, Bool.true_eq_false, Bool.false_eq_true])
  all_goals (repeat first | rw [if_pos (by omega)] | rw [if_neg (by omega)])
  all_goals first | exact h | apply h | rfl | (simp_all [-Bool.forall_bool]; done) | (simp_all [-Bool.forall_bool]; first | exact h | apply h) | (simp_all [-Bool.forall_bool, emp_eq, int_beq]; done) | (simp_all [-Bool.forall_bool]; (intros; simp_all; done)) | (simp_all [-Bool.forall_bool, rdset3, rdset96, rdset108, rdset88, rdset4, rdset53]; done) | grind
end Go.Proofs.Yteideicglgpfiaa.M2

/- What the print's plain functions answer, the own ones answer. Written by a program of this session. -/
namespace Go.Proofs.Yteideicglgpfiaa.M2
open Go Go.RowKit Go.Proofs.YteideicglgpfiaaW.PrintWords Go.Proofs.Yteideicglgpfiaa.PK
set_option linter.unusedVariables false
set_option linter.unusedSimpArgs false
theorem laws_toArena.rel (k : Nat) (l0_0 : List (S108)) (r) (h : PK.laws_toArena.f k l0_0 = some r) (m : Nat) (hm : k ≤ m) : laws_toArena.f m l0_0 = some r := by
  rw [PK.laws_toArena.f] at h
  rw [laws_toArena.f]
  try simp only [w64_eq, wu8_eq, gt_iff_lt, ge_iff_le, int_beq, fdiv33, fdiv45, bt_eq, tmodN, rdOfB, rdOfL] at h
  try simp only [shlR]
  try simp only [w64_eq, wu8_eq, gt_iff_lt, ge_iff_le, int_beq, fdiv33, fdiv45, bt_eq, tmodN, rdOfB, rdOfL, rdT3_eq, seq, maxI, minI, emp_eq, rdn3, rdn96, rdn108, rdn88, rdn4, rdn53]
  refine (bnE h (fun _ g h => (fun g => ?_) (laws_toKnotS.rel _ _ _ g m (by omega))))
  all_goals (try cases h)
  all_goals (try simp only [*, if_true, if_false, ↓reduceIte, Option.bind_some, List.length_cons, List.length_nil, List.length_append, Bool.not_true, Bool.not_false, Bool.true_eq_false, Bool.false_eq_true])
  all_goals (repeat first | rw [if_pos (by omega)] | rw [if_neg (by omega)])
  all_goals first | exact h | apply h | rfl | (simp_all [-Bool.forall_bool]; done) | (simp_all [-Bool.forall_bool]; first | exact h | apply h) | (simp_all [-Bool.forall_bool, emp_eq, int_beq]; done) | (simp_all [-Bool.forall_bool]; (intros; simp_all; done)) | (simp_all [-Bool.forall_bool, rdset3, rdset96, rdset108, rdset88, rdset4, rdset53]; done) | grind

theorem laws_toStore.rel (k : Nat) (l0_0 : List (S96)) (l0_1 : List (S108)) (a0_2 : Int) (r) (h : PK.laws_toStore.f k l0_0 l0_1 a0_2 = some r) (m : Nat) (hm : k ≤ m) : laws_toStore.f m l0_0 l0_1 a0_2 = some (r.1, r.2.1, r.2.2) := by
  rw [PK.laws_toStore.f] at h
  rw [laws_toStore.f]
  try simp only [w64_eq, wu8_eq, gt_iff_lt, ge_iff_le, int_beq, fdiv33, fdiv45, bt_eq, tmodN, rdOfB, rdOfL] at h
  try simp only [shlR]
  try simp only [w64_eq, wu8_eq, gt_iff_lt, ge_iff_le, int_beq, fdiv33, fdiv45, bt_eq, tmodN, rdOfB, rdOfL, rdT3_eq, seq, maxI, minI, emp_eq, rdn3, rdn96, rdn108, rdn88, rdn4, rdn53]
  refine (bnE h (fun _ g h => (fun g => (bnE h (fun _ g h => (fun g => ?_) (laws_toArena.rel _ _ _ g m (by omega))))) (laws_toVolS.rel _ _ _ g m (by omega))))
  all_goals (try cases h)
  all_goals (try simp only [*, if_true, if_false, ↓reduceIte, Option.bind_some, List.length_cons, List.length_nil, List.length_append, Bool.not_true, Bool.not_false, Bool.true_eq_false, Bool.false_eq_true])
  all_goals (repeat first | rw [if_pos (by omega)] | rw [if_neg (by omega)])
  all_goals first | exact h | apply h | rfl | (simp_all [-Bool.forall_bool]; done) | (simp_all [-Bool.forall_bool]; first | exact h | apply h) | (simp_all [-Bool.forall_bool, emp_eq, int_beq]; done) | (simp_all [-Bool.forall_bool]; (intros; simp_all; done)) | (simp_all [-Bool.forall_bool, rdset3, rdset96, rdset108, rdset88, rdset4, rdset53]; done) | grind

theorem laws_eqVol.rel (k : Nat) (a0_0 : Int) (a0_1 : Int) (a1_0 : Int) (a1_1 : Int) (r) (h : PK.laws_eqVol.f a0_0 a0_1 a1_0 a1_1 = some r) (m : Nat) (hm : k ≤ m) : laws_eqVol.f m a0_0 a0_1 a1_0 a1_1 = some r := by
  rw [PK.laws_eqVol.f] at h
  rw [laws_eqVol.f]
  try simp only [w64_eq, wu8_eq, gt_iff_lt, ge_iff_le, int_beq, fdiv33, fdiv45, bt_eq, tmodN, rdOfB, rdOfL] at h
  try simp only [shlR]
  try simp only [w64_eq, wu8_eq, gt_iff_lt, ge_iff_le, int_beq, fdiv33, fdiv45, bt_eq, tmodN, rdOfB, rdOfL, rdT3_eq, seq, maxI, minI, emp_eq, rdn3, rdn96, rdn108, rdn88, rdn4, rdn53]
  refine (itE h (fun q h => (itE h (fun q h => ?_) (fun q h => ?_))) (fun q h => ?_))
  all_goals (try cases h)
  all_goals (try simp only [*, if_true, if_false, ↓reduceIte, Option.bind_some, List.length_cons, List.length_nil, List.length_append, Bool.not_true, Bool.not_false, Bool.true_eq_false, Bool.false_eq_true])
  all_goals (repeat first | rw [if_pos (by omega)] | rw [if_neg (by omega)])
  all_goals first | exact h | apply h | rfl | (simp_all [-Bool.forall_bool]; done) | (simp_all [-Bool.forall_bool]; first | exact h | apply h) | (simp_all [-Bool.forall_bool, emp_eq, int_beq]; done) | (simp_all [-Bool.forall_bool]; (intros; simp_all; done)) | (simp_all [-Bool.forall_bool, rdset3, rdset96, rdset108, rdset88, rdset4, rdset53]; done) | grind

theorem laws_eqVolS.rel_l (k : Nat) : (∀ x0 x1 x5 r, PK.laws_eqVolS.l0 k x0 x1 x5 = some r → ∀ m, k ≤ m → laws_eqVolS.c4 m x0 x1 x5 = some r) := by
  induction k using Nat.strongRecOn with
  | _ k ih =>
  have il0 := fun k' hk' => (ih k' hk')
  clear ih
  intro x0 x1 x5 r h m hm
  cases k with
  | zero => simp only [PK.laws_eqVolS.l0] at h; cases h
  | succ k =>
    obtain ⟨m, rfl⟩ : ∃ m', m = m' + 1 := ⟨m - 1, by omega⟩
    rw [PK.laws_eqVolS.l0] at h
    rw [laws_eqVolS.c4]
    try simp only [w64_eq, wu8_eq, gt_iff_lt, ge_iff_le, int_beq, fdiv33, fdiv45, bt_eq, tmodN, rdOfB, rdOfL] at h
    try simp only [shlR]
    try simp only [w64_eq, wu8_eq, gt_iff_lt, ge_iff_le, int_beq, fdiv33, fdiv45, bt_eq, tmodN, rdOfB, rdOfL, rdT3_eq, seq, maxI, minI, emp_eq, rdn3, rdn96, rdn108, rdn88, rdn4, rdn53]
    refine (itE h (fun q h => (itE h (fun q h => (itE h (fun q h => (bnE h (fun _ g h => (fun g => (itE h (fun q h => ((fun h => ?_) (il0 _ (by omega) _ _ _ _ h m (by omega)))) (fun q h => ?_))) (laws_eqVol.rel m _ _ _ _ _ g m (by omega))))) (fun q h => (noE h)))) (fun q h => (noE h)))) (fun q h => ?_))
    all_goals clear il0
    all_goals (try cases h)
    all_goals (try simp only [*, if_true, if_false, ↓reduceIte, Option.bind_some, List.length_cons, List.length_nil, List.length_append, Bool.not_true, Bool.not_false, Bool.true_eq_false, Bool.false_eq_true])
    all_goals (repeat first | rw [if_pos (by omega)] | rw [if_neg (by omega)])
    all_goals first | exact h | apply h | rfl | (simp_all [-Bool.forall_bool]; done) | (simp_all [-Bool.forall_bool]; first | exact h | apply h) | (simp_all [-Bool.forall_bool, emp_eq, int_beq]; done) | (simp_all [-Bool.forall_bool]; (intros; simp_all; done)) | (simp_all [-Bool.forall_bool, rdset3, rdset96, rdset108, rdset88, rdset4, rdset53]; done) | grind
theorem laws_eqVolS.rel (k : Nat) (l0 : List (S53)) (l1 : List (S53)) (r) (h : PK.laws_eqVolS.f k l0 l1 = some r) (m : Nat) (hm : k ≤ m) : laws_eqVolS.f m l0 l1 = some r := by
  have il0 := fun k' (_ : k' < k + 1) => (laws_eqVolS.rel_l k')
  rw [PK.laws_eqVolS.f] at h
  rw [laws_eqVolS.f]
  try simp only [w64_eq, wu8_eq, gt_iff_lt, ge_iff_le, int_beq, fdiv33, fdiv45, bt_eq, tmodN, rdOfB, rdOfL] at h
  try simp only [shlR]
  try simp only [w64_eq, wu8_eq, gt_iff_lt, ge_iff_le, int_beq, fdiv33, fdiv45, bt_eq, tmodN, rdOfB, rdOfL, rdT3_eq, seq, maxI, minI, emp_eq, rdn3, rdn96, rdn108, rdn88, rdn4, rdn53]
  refine (itE h (fun q h => ((fun h => ?_) (il0 _ (by omega) _ _ _ _ h m (by omega)))) (fun q h => ?_))
  all_goals clear il0
  all_goals (try cases h)
  all_goals (try simp only [*, if_true, if_false, ↓reduceIte, Option.bind_some, List.length_cons, List.length_nil, List.length_append, Bool.not_true, Bool.not_false, Bool.true_eq_false, Bool.false_eq_true])
  all_goals (repeat first | rw [if_pos (by omega)] | rw [if_neg (by omega)])
  all_goals first | exact h | apply h | rfl | (simp_all [-Bool.forall_bool]; done) | (simp_all [-Bool.forall_bool]; first | exact h | apply h) | (simp_all [-Bool.forall_bool, emp_eq, int_beq]; done) | (simp_all [-Bool.forall_bool]; (intros; simp_all; done)) | (simp_all [-Bool.forall_bool, rdset3, rdset96, rdset108, rdset88, rdset4, rdset53]; done) | grind
end Go.Proofs.Yteideicglgpfiaa.M2

/- What the print's plain functions answer, the own ones answer. Written by a program of this session. -/
namespace Go.Proofs.Yteideicglgpfiaa.M2
open Go Go.RowKit Go.Proofs.YteideicglgpfiaaW.PrintWords Go.Proofs.Yteideicglgpfiaa.PK
set_option linter.unusedVariables false
set_option linter.unusedSimpArgs false
theorem laws_eqIntS.rel_l (k : Nat) : (∀ x0 x1 x5 r, PK.laws_eqIntS.l0 k x0 x1 x5 = some r → ∀ m, k ≤ m → laws_eqIntS.c4 m x0 x1 x5 = some r) := by
  induction k using Nat.strongRecOn with
  | _ k ih =>
  have il0 := fun k' hk' => (ih k' hk')
  clear ih
  intro x0 x1 x5 r h m hm
  cases k with
  | zero => simp only [PK.laws_eqIntS.l0] at h; cases h
  | succ k =>
    obtain ⟨m, rfl⟩ : ∃ m', m = m' + 1 := ⟨m - 1, by omega⟩
    rw [PK.laws_eqIntS.l0] at h
    rw [laws_eqIntS.c4]
    try simp only [w64_eq, wu8_eq, gt_iff_lt, ge_iff_le, int_beq, fdiv33, fdiv45, bt_eq, tmodN, rdOfB, rdOfL] at h
    try simp only [shlR]
    try simp only [w64_eq, wu8_eq, gt_iff_lt, ge_iff_le, int_beq, fdiv33, fdiv45, bt_eq, tmodN, rdOfB, rdOfL, rdT3_eq, seq, maxI, minI, emp_eq, rdn3, rdn96, rdn108, rdn88, rdn4, rdn53]
    refine (itE h (fun q h => (itE h (fun q h => (itE h (fun q h => (itE h (fun q h => ((fun h => ?_) (il0 _ (by omega) _ _ _ _ h m (by omega)))) (fun q h => ?_))) (fun q h => (noE h)))) (fun q h => (noE h)))) (fun q h => ?_))
    all_goals clear il0
    all_goals (try cases h)
    all_goals (try simp only [*, if_true, if_false, ↓reduceIte, Option.bind_some, List.length_cons, List.length_nil, List.length_append, Bool.not_true, Bool.not_false, Bool.true_eq_false, Bool.false_eq_true])
    all_goals (repeat first | rw [if_pos (by omega)] | rw [if_neg (by omega)])
    all_goals first | exact h | apply h | rfl | (simp_all [-Bool.forall_bool]; done) | (simp_all [-Bool.forall_bool]; first | exact h | apply h) | (simp_all [-Bool.forall_bool, emp_eq, int_beq]; done) | (simp_all [-Bool.forall_bool]; (intros; simp_all; done)) | (simp_all [-Bool.forall_bool, rdset3, rdset96, rdset108, rdset88, rdset4, rdset53]; done) | grind
theorem laws_eqIntS.rel (k : Nat) (l0 : List Int) (l1 : List Int) (r) (h : PK.laws_eqIntS.f k l0 l1 = some r) (m : Nat) (hm : k ≤ m) : laws_eqIntS.f m l0 l1 = some r := by
  have il0 := fun k' (_ : k' < k + 1) => (laws_eqIntS.rel_l k')
  rw [PK.laws_eqIntS.f] at h
  rw [laws_eqIntS.f]
  try simp only [w64_eq, wu8_eq, gt_iff_lt, ge_iff_le, int_beq, fdiv33, fdiv45, bt_eq, tmodN, rdOfB, rdOfL] at h
  try simp only [shlR]
  try simp only [w64_eq, wu8_eq, gt_iff_lt, ge_iff_le, int_beq, fdiv33, fdiv45, bt_eq, tmodN, rdOfB, rdOfL, rdT3_eq, seq, maxI, minI, emp_eq, rdn3, rdn96, rdn108, rdn88, rdn4, rdn53]
  refine (itE h (fun q h => ((fun h => ?_) (il0 _ (by omega) _ _ _ _ h m (by omega)))) (fun q h => ?_))
  all_goals clear il0
  all_goals (try cases h)
  all_goals (try simp only [*, if_true, if_false, ↓reduceIte, Option.bind_some, List.length_cons, List.length_nil, List.length_append, Bool.not_true, Bool.not_false, Bool.true_eq_false, Bool.false_eq_true])
  all_goals (repeat first | rw [if_pos (by omega)] | rw [if_neg (by omega)])
  all_goals first | exact h | apply h | rfl | (simp_all [-Bool.forall_bool]; done) | (simp_all [-Bool.forall_bool]; first | exact h | apply h) | (simp_all [-Bool.forall_bool, emp_eq, int_beq]; done) | (simp_all [-Bool.forall_bool]; (intros; simp_all; done)) | (simp_all [-Bool.forall_bool, rdset3, rdset96, rdset108, rdset88, rdset4, rdset53]; done) | grind

theorem laws_eqKnot.rel (k : Nat) (a0_0 : Bool) (l0_1 : List Int) (a1_0 : Bool) (l1_1 : List Int) (r) (h : PK.laws_eqKnot.f k a0_0 l0_1 a1_0 l1_1 = some r) (m : Nat) (hm : k ≤ m) : laws_eqKnot.f m a0_0 l0_1 a1_0 l1_1 = some r := by
  rw [PK.laws_eqKnot.f] at h
  rw [laws_eqKnot.f]
  try simp only [w64_eq, wu8_eq, gt_iff_lt, ge_iff_le, int_beq, fdiv33, fdiv45, bt_eq, tmodN, rdOfB, rdOfL] at h
  try simp only [shlR]
  try simp only [w64_eq, wu8_eq, gt_iff_lt, ge_iff_le, int_beq, fdiv33, fdiv45, bt_eq, tmodN, rdOfB, rdOfL, rdT3_eq, seq, maxI, minI, emp_eq, rdn3, rdn96, rdn108, rdn88, rdn4, rdn53]
  refine (itE h (fun q h => ?_) (fun q h => (bnE h (fun _ g h => (fun g => (itE h (fun q h => ?_) (fun q h => ?_))) (laws_eqIntS.rel _ _ _ _ g m (by omega))))))
  all_goals (try cases h)
  all_goals (try simp only [*, if_true, if_false, ↓reduceIte, Option.bind_some, List.length_cons, List.length_nil, List.length_append, Bool.not_true, Bool.not_false, Bool.true_eq_false, Bool.false_eq_true])
  all_goals (repeat first | rw [if_pos (by omega)] | rw [if_neg (by omega)])
  all_goals first | exact h | apply h | rfl | (simp_all [-Bool.forall_bool]; done) | (simp_all [-Bool.forall_bool]; first | exact h | apply h) | (simp_all [-Bool.forall_bool, emp_eq, int_beq]; done) | (simp_all [-Bool.forall_bool]; (intros; simp_all; done)) | (simp_all [-Bool.forall_bool, rdset3, rdset96, rdset108, rdset88, rdset4, rdset53]; done) | grind

theorem laws_eqKnotS.rel_l (k : Nat) : (∀ x0 x1 x5 r, PK.laws_eqKnotS.l0 k x0 x1 x5 = some r → ∀ m, k ≤ m → laws_eqKnotS.c4 m x0 x1 x5 = some r) := by
  induction k using Nat.strongRecOn with
  | _ k ih =>
  have il0 := fun k' hk' => (ih k' hk')
  clear ih
  intro x0 x1 x5 r h m hm
  cases k with
  | zero => simp only [PK.laws_eqKnotS.l0] at h; cases h
  | succ k =>
    obtain ⟨m, rfl⟩ : ∃ m', m = m' + 1 := ⟨m - 1, by omega⟩
    rw [PK.laws_eqKnotS.l0] at h
    rw [laws_eqKnotS.c4]
    try simp only [w64_eq, wu8_eq, gt_iff_lt, ge_iff_le, int_beq, fdiv33, fdiv45, bt_eq, tmodN, rdOfB, rdOfL] at h
    try simp only [shlR]
    try simp only [w64_eq, wu8_eq, gt_iff_lt, ge_iff_le, int_beq, fdiv33, fdiv45, bt_eq, tmodN, rdOfB, rdOfL, rdT3_eq, seq, maxI, minI, emp_eq, rdn3, rdn96, rdn108, rdn88, rdn4, rdn53]
    refine (itE h (fun q h => (itE h (fun q h => (itE h (fun q h => (bnE h (fun _ g h => (fun g => (itE h (fun q h => ((fun h => ?_) (il0 _ (by omega) _ _ _ _ h m (by omega)))) (fun q h => ?_))) (laws_eqKnot.rel _ _ _ _ _ _ g m (by omega))))) (fun q h => (noE h)))) (fun q h => (noE h)))) (fun q h => ?_))
    all_goals clear il0
    all_goals (try cases h)
    all_goals (try simp only [*, if_true, if_false, ↓reduceIte, Option.bind_some, List.length_cons, List.length_nil, List.length_append, Bool.not_true, Bool.not_false, Bool.true_eq_false, Bool.false_eq_true])
    all_goals (repeat first | rw [if_pos (by omega)] | rw [if_neg (by omega)])
    all_goals first | exact h | apply h | rfl | (simp_all [-Bool.forall_bool]; done) | (simp_all [-Bool.forall_bool]; first | exact h | apply h) | (simp_all [-Bool.forall_bool, emp_eq, int_beq]; done) | (simp_all [-Bool.forall_bool]; (intros; simp_all; done)) | (simp_all [-Bool.forall_bool, rdset3, rdset96, rdset108, rdset88, rdset4, rdset53]; done) | grind
theorem laws_eqKnotS.rel (k : Nat) (l0 : List (S88)) (l1 : List (S88)) (r) (h : PK.laws_eqKnotS.f k l0 l1 = some r) (m : Nat) (hm : k ≤ m) : laws_eqKnotS.f m l0 l1 = some r := by
  have il0 := fun k' (_ : k' < k + 1) => (laws_eqKnotS.rel_l k')
  rw [PK.laws_eqKnotS.f] at h
  rw [laws_eqKnotS.f]
  try simp only [w64_eq, wu8_eq, gt_iff_lt, ge_iff_le, int_beq, fdiv33, fdiv45, bt_eq, tmodN, rdOfB, rdOfL] at h
  try simp only [shlR]
  try simp only [w64_eq, wu8_eq, gt_iff_lt, ge_iff_le, int_beq, fdiv33, fdiv45, bt_eq, tmodN, rdOfB, rdOfL, rdT3_eq, seq, maxI, minI, emp_eq, rdn3, rdn96, rdn108, rdn88, rdn4, rdn53]
  refine (itE h (fun q h => ((fun h => ?_) (il0 _ (by omega) _ _ _ _ h m (by omega)))) (fun q h => ?_))
  all_goals clear il0
  all_goals (try cases h)
  all_goals (try simp only [*, if_true, if_false, ↓reduceIte, Option.bind_some, List.length_cons, List.length_nil, List.length_append, Bool.not_true, Bool.not_false, Bool.true_eq_false, Bool.false_eq_true])
  all_goals (repeat first | rw [if_pos (by omega)] | rw [if_neg (by omega)])
  all_goals first | exact h | apply h | rfl | (simp_all [-Bool.forall_bool]; done) | (simp_all [-Bool.forall_bool]; first | exact h | apply h) | (simp_all [-Bool.forall_bool, emp_eq, int_beq]; done) | (simp_all [-Bool.forall_bool]; (intros; simp_all; done)) | (simp_all [-Bool.forall_bool, rdset3, rdset96, rdset108, rdset88, rdset4, rdset53]; done) | grind
end Go.Proofs.Yteideicglgpfiaa.M2

/- What the print's plain functions answer, the own ones answer. Written by a program of this session. -/
namespace Go.Proofs.Yteideicglgpfiaa.M2
open Go Go.RowKit Go.Proofs.YteideicglgpfiaaW.PrintWords Go.Proofs.Yteideicglgpfiaa.PK
set_option linter.unusedVariables false
set_option linter.unusedSimpArgs false
theorem laws_eqArena.rel (k : Nat) (l0_0 : List (S88)) (l1_0 : List (S88)) (r) (h : PK.laws_eqArena.f k l0_0 l1_0 = some r) (m : Nat) (hm : k ≤ m) : laws_eqArena.f m l0_0 l1_0 = some r := by
  rw [PK.laws_eqArena.f] at h
  rw [laws_eqArena.f]
  try simp only [w64_eq, wu8_eq, gt_iff_lt, ge_iff_le, int_beq, fdiv33, fdiv45, bt_eq, tmodN, rdOfB, rdOfL] at h
  try simp only [shlR]
  try simp only [w64_eq, wu8_eq, gt_iff_lt, ge_iff_le, int_beq, fdiv33, fdiv45, bt_eq, tmodN, rdOfB, rdOfL, rdT3_eq, seq, maxI, minI, emp_eq, rdn3, rdn96, rdn108, rdn88, rdn4, rdn53]
  refine (bnE h (fun _ g h => (fun g => (itE h (fun q h => ?_) (fun q h => ?_))) (laws_eqKnotS.rel _ _ _ _ g m (by omega))))
  all_goals (try cases h)
  all_goals (try simp only [*, if_true, if_false, ↓reduceIte, Option.bind_some, List.length_cons, List.length_nil, List.length_append, Bool.not_true, Bool.not_false, Bool.true_eq_false, Bool.false_eq_true])
  all_goals (repeat first | rw [if_pos (by omega)] | rw [if_neg (by omega)])
  all_goals first | exact h | apply h | rfl | (simp_all [-Bool.forall_bool]; done) | (simp_all [-Bool.forall_bool]; first | exact h | apply h) | (simp_all [-Bool.forall_bool, emp_eq, int_beq]; done) | (simp_all [-Bool.forall_bool]; (intros; simp_all; done)) | (simp_all [-Bool.forall_bool, rdset3, rdset96, rdset108, rdset88, rdset4, rdset53]; done) | grind

theorem laws_eqStore.rel (k : Nat) (l0_0 : List (S53)) (l0_1 : List (S88)) (a0_2 : Int) (l1_0 : List (S53)) (l1_1 : List (S88)) (a1_2 : Int) (r) (h : PK.laws_eqStore.f k l0_0 l0_1 a0_2 l1_0 l1_1 a1_2 = some r) (m : Nat) (hm : k ≤ m) : laws_eqStore.f m l0_0 l0_1 a0_2 l1_0 l1_1 a1_2 = some r := by
  rw [PK.laws_eqStore.f] at h
  rw [laws_eqStore.f]
  try simp only [w64_eq, wu8_eq, gt_iff_lt, ge_iff_le, int_beq, fdiv33, fdiv45, bt_eq, tmodN, rdOfB, rdOfL] at h
  try simp only [shlR]
  try simp only [w64_eq, wu8_eq, gt_iff_lt, ge_iff_le, int_beq, fdiv33, fdiv45, bt_eq, tmodN, rdOfB, rdOfL, rdT3_eq, seq, maxI, minI, emp_eq, rdn3, rdn96, rdn108, rdn88, rdn4, rdn53]
  refine (bnE h (fun _ g h => (fun g => (itE h (fun q h => (bnE h (fun _ g h => (fun g => (itE h (fun q h => (itE h (fun q h => ?_) (fun q h => ?_))) (fun q h => ?_))) (laws_eqArena.rel _ _ _ _ g m (by omega))))) (fun q h => ?_))) (laws_eqVolS.rel _ _ _ _ g m (by omega))))
  all_goals (try cases h)
  all_goals (try simp only [*, if_true, if_false, ↓reduceIte, Option.bind_some, List.length_cons, List.length_nil, List.length_append, Bool.not_true, Bool.not_false, Bool.true_eq_false, Bool.false_eq_true])
  all_goals (repeat first | rw [if_pos (by omega)] | rw [if_neg (by omega)])
  all_goals first | exact h | apply h | rfl | (simp_all [-Bool.forall_bool]; done) | (simp_all [-Bool.forall_bool]; first | exact h | apply h) | (simp_all [-Bool.forall_bool, emp_eq, int_beq]; done) | (simp_all [-Bool.forall_bool]; (intros; simp_all; done)) | (simp_all [-Bool.forall_bool, rdset3, rdset96, rdset108, rdset88, rdset4, rdset53]; done) | grind

theorem spec_l01In.rel (k : Nat) (a0 : Int) (a1 : Int) (a2 : Int) (r) (h : PK.spec_l01In.f a0 a1 a2 = some r) (m : Nat) (hm : k ≤ m) : spec_l01In.f m a0 a1 a2 = some r := by
  rw [PK.spec_l01In.f] at h
  rw [spec_l01In.f]
  try simp only [w64_eq, wu8_eq, gt_iff_lt, ge_iff_le, int_beq, fdiv33, fdiv45, bt_eq, tmodN, rdOfB, rdOfL] at h
  try simp only [shlR]
  try simp only [w64_eq, wu8_eq, gt_iff_lt, ge_iff_le, int_beq, fdiv33, fdiv45, bt_eq, tmodN, rdOfB, rdOfL, rdT3_eq, seq, maxI, minI, emp_eq, rdn3, rdn96, rdn108, rdn88, rdn4, rdn53]
  refine (itE h (fun q h => ?_) (fun q h => ?_))
  all_goals (try cases h)
  all_goals (try simp only [*, if_true, if_false, ↓reduceIte, Option.bind_some, List.length_cons, List.length_nil, List.length_append, Bool.not_true, Bool.not_false, Bool.true_eq_false, Bool.false_eq_true])
  all_goals (repeat first | rw [if_pos (by omega)] | rw [if_neg (by omega)])
  all_goals first | exact h | apply h | rfl | (simp_all [-Bool.forall_bool]; done) | (simp_all [-Bool.forall_bool]; first | exact h | apply h) | (simp_all [-Bool.forall_bool, emp_eq, int_beq]; done) | (simp_all [-Bool.forall_bool]; (intros; simp_all; done)) | (simp_all [-Bool.forall_bool, rdset3, rdset96, rdset108, rdset88, rdset4, rdset53]; done) | grind

theorem spec_ArenaOk.rel_l (k : Nat) : (∀ x3 x111000 r, PK.spec_ArenaOk.l0 k x3 x111000 = some r → ∀ m, k ≤ m → spec_ArenaOk.c2 m x3 x111000 = some r) ∧ (∀ x3 x5 x111000 x113000 x113001 r, PK.spec_ArenaOk.l1 k x3 x5 x111000 x113000 x113001 = some r → ∀ m, k ≤ m → spec_ArenaOk.c8 m x3 x5 x111000 x113000 x113001 = some r) := by
  induction k using Nat.strongRecOn with
  | _ k ih =>
  have il0 := fun k' hk' => (ih k' hk').1
  have il1 := fun k' hk' => (ih k' hk').2
  clear ih
  refine ⟨?_, ?_⟩
  · intro x3 x111000 r h m hm
    cases k with
    | zero => simp only [PK.spec_ArenaOk.l0] at h; cases h
    | succ k =>
      obtain ⟨m, rfl⟩ : ∃ m', m = m' + 1 := ⟨m - 1, by omega⟩
      rw [PK.spec_ArenaOk.l0] at h
      rw [spec_ArenaOk.c2]
      try simp only [w64_eq, wu8_eq, gt_iff_lt, ge_iff_le, int_beq, fdiv33, fdiv45, bt_eq, tmodN, rdOfB, rdOfL] at h
      try simp only [shlR]
      try simp only [w64_eq, wu8_eq, gt_iff_lt, ge_iff_le, int_beq, fdiv33, fdiv45, bt_eq, tmodN, rdOfB, rdOfL, rdT3_eq, seq, maxI, minI, emp_eq, rdn3, rdn96, rdn108, rdn88, rdn4, rdn53]
      refine (itE h (fun q h => (itE h (fun q h => (itE h (fun q h => ((fun h => ?_) (il1 _ (by omega) _ _ _ _ _ _ h m (by omega)))) (fun q h => ?_))) (fun q h => (noE h)))) (fun q h => ?_))
      all_goals clear il0 il1
      all_goals (try cases h)
      all_goals (try simp only [*, if_true, if_false, ↓reduceIte, Option.bind_some, List.length_cons, List.length_nil, List.length_append, Bool.not_true, Bool.not_false, Bool.true_eq_false, Bool.false_eq_true])
      all_goals (repeat first | rw [if_pos (by omega)] | rw [if_neg (by omega)])
      all_goals first | exact h | apply h | rfl | (simp_all [-Bool.forall_bool]; done) | (simp_all [-Bool.forall_bool]; first | exact h | apply h) | (simp_all [-Bool.forall_bool, emp_eq, int_beq]; done) | (simp_all [-Bool.forall_bool]; (intros; simp_all; done)) | (simp_all [-Bool.forall_bool, rdset3, rdset96, rdset108, rdset88, rdset4, rdset53]; done) | grind
  · intro x3 x5 x111000 x113000 x113001 r h m hm
    cases k with
    | zero => simp only [PK.spec_ArenaOk.l1] at h; cases h
    | succ k =>
      obtain ⟨m, rfl⟩ : ∃ m', m = m' + 1 := ⟨m - 1, by omega⟩
      rw [PK.spec_ArenaOk.l1] at h
      rw [spec_ArenaOk.c8]
      try simp only [w64_eq, wu8_eq, gt_iff_lt, ge_iff_le, int_beq, fdiv33, fdiv45, bt_eq, tmodN, rdOfB, rdOfL] at h
      try simp only [shlR]
      try simp only [w64_eq, wu8_eq, gt_iff_lt, ge_iff_le, int_beq, fdiv33, fdiv45, bt_eq, tmodN, rdOfB, rdOfL, rdT3_eq, seq, maxI, minI, emp_eq, rdn3, rdn96, rdn108, rdn88, rdn4, rdn53]
      refine (itE h (fun q h => (itE h (fun q h => (itE h (fun q h => (itE h (fun q h => (itE h (fun q h => ?_) (fun q h => ((fun h => ?_) (il1 _ (by omega) _ _ _ _ _ _ h m (by omega)))))) (fun q h => (itE h (fun q h => ((fun h => ?_) (il1 _ (by omega) _ _ _ _ _ _ h m (by omega)))) (fun q h => (bnE h (fun _ g h => (fun g => (itE h (fun q h => (itE h (fun q h => (itE h (fun q h => (itE h (fun q h => ((fun h => ?_) (il1 _ (by omega) _ _ _ _ _ _ h m (by omega)))) (fun q h => ?_))) (fun q h => (noE h)))) (fun q h => (noE h)))) (fun q h => ?_))) (spec_l01In.rel m _ _ _ _ g m (by omega))))))))) (fun q h => (noE h)))) (fun q h => (noE h)))) (fun q h => ((fun h => ?_) (il0 _ (by omega) _ _ _ h m (by omega)))))
      all_goals clear il0 il1
      all_goals (try cases h)
      all_goals (try simp only [*, if_true, if_false, ↓reduceIte, Option.bind_some, List.length_cons, List.length_nil, List.length_append, Bool.not_true, Bool.not_false, Bool.true_eq_false, Bool.false_eq_true])
      all_goals (repeat first | rw [if_pos (by omega)] | rw [if_neg (by omega)])
      all_goals first | exact h | apply h | rfl | (simp_all [-Bool.forall_bool]; done) | (simp_all [-Bool.forall_bool]; first | exact h | apply h) | (simp_all [-Bool.forall_bool, emp_eq, int_beq]; done) | (simp_all [-Bool.forall_bool]; (intros; simp_all; done)) | (simp_all [-Bool.forall_bool, rdset3, rdset96, rdset108, rdset88, rdset4, rdset53]; done) | grind
theorem spec_ArenaOk.rel (k : Nat) (l0_0 : List (S88)) (r) (h : PK.spec_ArenaOk.f k l0_0 = some r) (m : Nat) (hm : k ≤ m) : spec_ArenaOk.f m l0_0 = some r := by
  have il0 := fun k' (_ : k' < k + 1) => (spec_ArenaOk.rel_l k').1
  have il1 := fun k' (_ : k' < k + 1) => (spec_ArenaOk.rel_l k').2
  rw [PK.spec_ArenaOk.f] at h
  rw [spec_ArenaOk.f]
  try simp only [w64_eq, wu8_eq, gt_iff_lt, ge_iff_le, int_beq, fdiv33, fdiv45, bt_eq, tmodN, rdOfB, rdOfL] at h
  try simp only [shlR]
  try simp only [w64_eq, wu8_eq, gt_iff_lt, ge_iff_le, int_beq, fdiv33, fdiv45, bt_eq, tmodN, rdOfB, rdOfL, rdT3_eq, seq, maxI, minI, emp_eq, rdn3, rdn96, rdn108, rdn88, rdn4, rdn53]
  refine ((fun h => ?_) (il0 _ (by omega) _ _ _ h m (by omega)))
  all_goals clear il0 il1
  all_goals (try cases h)
  all_goals (try simp only [*, if_true, if_false, ↓reduceIte, Option.bind_some, List.length_cons, List.length_nil, List.length_append, Bool.not_true, Bool.not_false, Bool.true_eq_false, Bool.false_eq_true])
  all_goals (repeat first | rw [if_pos (by omega)] | rw [if_neg (by omega)])
  all_goals first | exact h | apply h | rfl | (simp_all [-Bool.forall_bool]; done) | (simp_all [-Bool.forall_bool]; first | exact h | apply h) | (simp_all [-Bool.forall_bool, emp_eq, int_beq]; done) | (simp_all [-Bool.forall_bool]; (intros; simp_all; done)) | (simp_all [-Bool.forall_bool, rdset3, rdset96, rdset108, rdset88, rdset4, rdset53]; done) | grind
end Go.Proofs.Yteideicglgpfiaa.M2

/- What the print's plain functions answer, the own ones answer. Written by a program of this session. -/
namespace Go.Proofs.Yteideicglgpfiaa.M2
open Go Go.RowKit Go.Proofs.YteideicglgpfiaaW.PrintWords Go.Proofs.Yteideicglgpfiaa.PK
set_option linter.unusedVariables false
set_option linter.unusedSimpArgs false
theorem spec_RecOk.rel (k : Nat) (a0_0 : Int) (a0_1 : Int) (a0_2 : Int) (a0_3 : Int) (r) (h : PK.spec_RecOk.f k a0_0 a0_1 a0_2 a0_3 = some r) (m : Nat) (hm : k ≤ m) : spec_RecOk.f m a0_0 a0_1 a0_2 a0_3 = some r := by
  rw [PK.spec_RecOk.f] at h
  rw [spec_RecOk.f]
  try simp only [w64_eq, wu8_eq, gt_iff_lt, ge_iff_le, int_beq, fdiv33, fdiv45, bt_eq, tmodN, rdOfB, rdOfL] at h
  try simp only [shlR]
  try simp only [w64_eq, wu8_eq, gt_iff_lt, ge_iff_le, int_beq, fdiv33, fdiv45, bt_eq, tmodN, rdOfB, rdOfL, rdT3_eq, seq, maxI, minI, emp_eq, rdn3, rdn96, rdn108, rdn88, rdn4, rdn53]
  refine (bnE h (fun _ g h => (fun g => (itE h (fun q h => (itE h (fun q h => (itE h (fun q h => ?_) (fun q h => ?_))) (fun q h => (bnE h (fun _ g h => (fun g => (itE h (fun q h => (bnE h (fun _ g h => (fun g => (itE h (fun q h => (itE h (fun q h => (by cases k with | zero => (simp only [PK.spec_RecOk.j0] at h; cases h) | succ k => (rw [PK.spec_RecOk.j0] at h; (try simp only [w64_eq, wu8_eq, gt_iff_lt, ge_iff_le, int_beq, fdiv33, fdiv45, bt_eq, tmodN, rdOfB, rdOfL] at h); refine (itE h (fun q h => ?_) (fun q h => (itE h (fun q h => ?_) (fun q h => (itE h (fun q h => ?_) (fun q h => (itE h (fun q h => (itE h (fun q h => (bnE h (fun _ g h => (fun g => ?_) (spec_l01In.rel m _ _ _ _ g m (by omega))))) (fun q h => ?_))) (fun q h => ?_)))))))) <;> ((try cases h); (try simp only [*, if_true, if_false, ↓reduceIte, Option.bind_some, List.length_cons, List.length_nil, List.length_append, Bool.not_true, Bool.not_false, Bool.true_eq_false, Bool.false_eq_true]); all_goals (repeat first | rw [if_pos (by omega)] | rw [if_neg (by omega)]); all_goals (first | exact h | apply h | rfl | (simp_all [-Bool.forall_bool]; done) | (simp_all [-Bool.forall_bool]; first | exact h | apply h) | (simp_all [-Bool.forall_bool, emp_eq, int_beq]; done) | (simp_all [-Bool.forall_bool]; (intros; simp_all; done)) | (simp_all [-Bool.forall_bool, rdset3, rdset96, rdset108, rdset88, rdset4, rdset53]; done) | grind))))) (fun q h => (by cases k with | zero => (simp only [PK.spec_RecOk.j0] at h; cases h) | succ k => (rw [PK.spec_RecOk.j0] at h; (try simp only [w64_eq, wu8_eq, gt_iff_lt, ge_iff_le, int_beq, fdiv33, fdiv45, bt_eq, tmodN, rdOfB, rdOfL] at h); refine (itE h (fun q h => ?_) (fun q h => (itE h (fun q h => ?_) (fun q h => (itE h (fun q h => ?_) (fun q h => (itE h (fun q h => (itE h (fun q h => (bnE h (fun _ g h => (fun g => ?_) (spec_l01In.rel m _ _ _ _ g m (by omega))))) (fun q h => ?_))) (fun q h => ?_)))))))) <;> ((try cases h); (try simp only [*, if_true, if_false, ↓reduceIte, Option.bind_some, List.length_cons, List.length_nil, List.length_append, Bool.not_true, Bool.not_false, Bool.true_eq_false, Bool.false_eq_true]); all_goals (repeat first | rw [if_pos (by omega)] | rw [if_neg (by omega)]); all_goals (first | exact h | apply h | rfl | (simp_all [-Bool.forall_bool]; done) | (simp_all [-Bool.forall_bool]; first | exact h | apply h) | (simp_all [-Bool.forall_bool, emp_eq, int_beq]; done) | (simp_all [-Bool.forall_bool]; (intros; simp_all; done)) | (simp_all [-Bool.forall_bool, rdset3, rdset96, rdset108, rdset88, rdset4, rdset53]; done) | grind))))))) (fun q h => (by cases k with | zero => (simp only [PK.spec_RecOk.j0] at h; cases h) | succ k => (rw [PK.spec_RecOk.j0] at h; (try simp only [w64_eq, wu8_eq, gt_iff_lt, ge_iff_le, int_beq, fdiv33, fdiv45, bt_eq, tmodN, rdOfB, rdOfL] at h); refine (itE h (fun q h => ?_) (fun q h => (itE h (fun q h => ?_) (fun q h => (itE h (fun q h => ?_) (fun q h => (itE h (fun q h => (itE h (fun q h => (bnE h (fun _ g h => (fun g => ?_) (spec_l01In.rel m _ _ _ _ g m (by omega))))) (fun q h => ?_))) (fun q h => ?_)))))))) <;> ((try cases h); (try simp only [*, if_true, if_false, ↓reduceIte, Option.bind_some, List.length_cons, List.length_nil, List.length_append, Bool.not_true, Bool.not_false, Bool.true_eq_false, Bool.false_eq_true]); all_goals (repeat first | rw [if_pos (by omega)] | rw [if_neg (by omega)]); all_goals (first | exact h | apply h | rfl | (simp_all [-Bool.forall_bool]; done) | (simp_all [-Bool.forall_bool]; first | exact h | apply h) | (simp_all [-Bool.forall_bool, emp_eq, int_beq]; done) | (simp_all [-Bool.forall_bool]; (intros; simp_all; done)) | (simp_all [-Bool.forall_bool, rdset3, rdset96, rdset108, rdset88, rdset4, rdset53]; done) | grind))))))) (spec_l01In.rel m _ _ _ _ g m (by omega))))) (fun q h => (by cases k with | zero => (simp only [PK.spec_RecOk.j0] at h; cases h) | succ k => (rw [PK.spec_RecOk.j0] at h; (try simp only [w64_eq, wu8_eq, gt_iff_lt, ge_iff_le, int_beq, fdiv33, fdiv45, bt_eq, tmodN, rdOfB, rdOfL] at h); refine (itE h (fun q h => ?_) (fun q h => (itE h (fun q h => ?_) (fun q h => (itE h (fun q h => ?_) (fun q h => (itE h (fun q h => (itE h (fun q h => (bnE h (fun _ g h => (fun g => ?_) (spec_l01In.rel m _ _ _ _ g m (by omega))))) (fun q h => ?_))) (fun q h => ?_)))))))) <;> ((try cases h); (try simp only [*, if_true, if_false, ↓reduceIte, Option.bind_some, List.length_cons, List.length_nil, List.length_append, Bool.not_true, Bool.not_false, Bool.true_eq_false, Bool.false_eq_true]); all_goals (repeat first | rw [if_pos (by omega)] | rw [if_neg (by omega)]); all_goals (first | exact h | apply h | rfl | (simp_all [-Bool.forall_bool]; done) | (simp_all [-Bool.forall_bool]; first | exact h | apply h) | (simp_all [-Bool.forall_bool, emp_eq, int_beq]; done) | (simp_all [-Bool.forall_bool]; (intros; simp_all; done)) | (simp_all [-Bool.forall_bool, rdset3, rdset96, rdset108, rdset88, rdset4, rdset53]; done) | grind))))))) (spec_l01In.rel m _ _ _ _ g m (by omega))))))) (fun q h => ?_))) (spec_l01In.rel m _ _ _ _ g m (by omega))))
  all_goals (try cases h)
  all_goals (try simp only [*, if_true, if_false, ↓reduceIte, Option.bind_some, List.length_cons, List.length_nil, List.length_append, Bool.not_true, Bool.not_false, Bool.true_eq_false, Bool.false_eq_true])
  all_goals (repeat first | rw [if_pos (by omega)] | rw [if_neg (by omega)])
  all_goals first | exact h | apply h | rfl | (simp_all [-Bool.forall_bool]; done) | (simp_all [-Bool.forall_bool]; first | exact h | apply h) | (simp_all [-Bool.forall_bool, emp_eq, int_beq]; done) | (simp_all [-Bool.forall_bool]; (intros; simp_all; done)) | (simp_all [-Bool.forall_bool, rdset3, rdset96, rdset108, rdset88, rdset4, rdset53]; done) | grind
end Go.Proofs.Yteideicglgpfiaa.M2

/- What the print's plain functions answer, the own ones answer. Written by a program of this session. -/
namespace Go.Proofs.Yteideicglgpfiaa.M2
open Go Go.RowKit Go.Proofs.YteideicglgpfiaaW.PrintWords Go.Proofs.Yteideicglgpfiaa.PK
set_option linter.unusedVariables false
set_option linter.unusedSimpArgs false
theorem spec_l11Copy.rel_l (k : Nat) : (∀ x4 x125000 x127000 r, PK.spec_l11Copy.l0 k x4 x125000 x127000 = some r → ∀ m, k ≤ m → ∀ (h66 : List S88), spec_l11Copy.c3 m x4 x125000 h66 x127000 = some r) := by
  induction k using Nat.strongRecOn with
  | _ k ih =>
  have il0 := fun k' hk' => (ih k' hk')
  clear ih
  intro x4 x125000 x127000 r h m hm h66
  cases k with
  | zero => simp only [PK.spec_l11Copy.l0] at h; cases h
  | succ k =>
    obtain ⟨m, rfl⟩ : ∃ m', m = m' + 1 := ⟨m - 1, by omega⟩
    rw [PK.spec_l11Copy.l0] at h
    rw [spec_l11Copy.c3]
    try simp only [w64_eq, wu8_eq, gt_iff_lt, ge_iff_le, int_beq, fdiv33, fdiv45, bt_eq, tmodN, rdOfB, rdOfL] at h
    try simp only [shlR]
    try simp only [w64_eq, wu8_eq, gt_iff_lt, ge_iff_le, int_beq, fdiv33, fdiv45, bt_eq, tmodN, rdOfB, rdOfL, rdT3_eq, seq, maxI, minI, emp_eq, rdn3, rdn96, rdn108, rdn88, rdn4, rdn53]
    refine (itE h (fun q h => (itE h (fun q h => (bsE h (fun h => (itE h (fun q h => (itE h (fun q h => ((fun h => ?_) (il0 _ (by omega) _ _ _ _ h m (by omega)))) (fun q h => (noE h)))) (fun q h => (noE h)))))) (fun q h => (noE h)))) (fun q h => ?_))
    all_goals clear il0
    all_goals (try cases h)
    all_goals (try simp only [*, if_true, if_false, ↓reduceIte, Option.bind_some, List.length_cons, List.length_nil, List.length_append, Bool.not_true, Bool.not_false, Bool.true_eq_false, Bool.false_eq_true])
    all_goals (repeat first | rw [if_pos (by omega)] | rw [if_neg (by omega)])
    all_goals first | exact h | apply h | rfl | (simp_all [-Bool.forall_bool]; done) | (simp_all [-Bool.forall_bool]; first | exact h | apply h) | (simp_all [-Bool.forall_bool, emp_eq, int_beq]; done) | (simp_all [-Bool.forall_bool]; (intros; simp_all; done)) | (simp_all [-Bool.forall_bool, rdset3, rdset96, rdset108, rdset88, rdset4, rdset53]; done) | grind
theorem spec_l11Copy.rel (k : Nat) (l0_0 : List (S88)) (r) (h : PK.spec_l11Copy.f k l0_0 = some r) (m : Nat) (hm : k ≤ m) : spec_l11Copy.f m l0_0 = some r := by
  have il0 := fun k' (_ : k' < k + 1) => (spec_l11Copy.rel_l k')
  rw [PK.spec_l11Copy.f] at h
  rw [spec_l11Copy.f]
  try simp only [w64_eq, wu8_eq, gt_iff_lt, ge_iff_le, int_beq, fdiv33, fdiv45, bt_eq, tmodN, rdOfB, rdOfL] at h
  try simp only [shlR]
  try simp only [w64_eq, wu8_eq, gt_iff_lt, ge_iff_le, int_beq, fdiv33, fdiv45, bt_eq, tmodN, rdOfB, rdOfL, rdT3_eq, seq, maxI, minI, emp_eq, rdn3, rdn96, rdn108, rdn88, rdn4, rdn53]
  refine ((fun h => ?_) (il0 _ (by omega) _ _ _ _ h m (by omega)))
  all_goals clear il0
  all_goals (try cases h)
  all_goals (try simp only [*, if_true, if_false, ↓reduceIte, Option.bind_some, List.length_cons, List.length_nil, List.length_append, Bool.not_true, Bool.not_false, Bool.true_eq_false, Bool.false_eq_true])
  all_goals (repeat first | rw [if_pos (by omega)] | rw [if_neg (by omega)])
  all_goals first | exact h | apply h | rfl | (simp_all [-Bool.forall_bool]; done) | (simp_all [-Bool.forall_bool]; first | exact h | apply h) | (simp_all [-Bool.forall_bool, emp_eq, int_beq]; done) | (simp_all [-Bool.forall_bool]; (intros; simp_all; done)) | (simp_all [-Bool.forall_bool, rdset3, rdset96, rdset108, rdset88, rdset4, rdset53]; done) | grind

theorem spec_l11Root.rel (k : Nat) (l0_0 : List (S88)) (a1 : Int) (r) (h : PK.spec_l11Root.f l0_0 a1 = some r) (m : Nat) (hm : k ≤ m) : spec_l11Root.f m l0_0 a1 = some r := by
  rw [PK.spec_l11Root.f] at h
  rw [spec_l11Root.f]
  try simp only [w64_eq, wu8_eq, gt_iff_lt, ge_iff_le, int_beq, fdiv33, fdiv45, bt_eq, tmodN, rdOfB, rdOfL] at h
  try simp only [shlR]
  try simp only [w64_eq, wu8_eq, gt_iff_lt, ge_iff_le, int_beq, fdiv33, fdiv45, bt_eq, tmodN, rdOfB, rdOfL, rdT3_eq, seq, maxI, minI, emp_eq, rdn3, rdn96, rdn108, rdn88, rdn4, rdn53]
  refine (itE h (fun q h => ?_) (fun q h => (bnE h (fun _ g h => (fun g => (itE h (fun q h => (itE h (fun q h => (itE h (fun q h => ?_) (fun q h => (noE h)))) (fun q h => (noE h)))) (fun q h => ?_))) (spec_l01In.rel m _ _ _ _ g m (by omega))))))
  all_goals (try cases h)
  all_goals (try simp only [*, if_true, if_false, ↓reduceIte, Option.bind_some, List.length_cons, List.length_nil, List.length_append, Bool.not_true, Bool.not_false, Bool.true_eq_false, Bool.false_eq_true])
  all_goals (repeat first | rw [if_pos (by omega)] | rw [if_neg (by omega)])
  all_goals first | exact h | apply h | rfl | (simp_all [-Bool.forall_bool]; done) | (simp_all [-Bool.forall_bool]; first | exact h | apply h) | (simp_all [-Bool.forall_bool, emp_eq, int_beq]; done) | (simp_all [-Bool.forall_bool]; (intros; simp_all; done)) | (simp_all [-Bool.forall_bool, rdset3, rdset96, rdset108, rdset88, rdset4, rdset53]; done) | grind

theorem spec_l11Get.rel (k : Nat) (l0_0 : List (S88)) (a1 : Int) (a2 : Int) (r) (h : PK.spec_l11Get.f l0_0 a1 a2 = some r) (m : Nat) (hm : k ≤ m) : spec_l11Get.f m l0_0 a1 a2 = some r := by
  rw [PK.spec_l11Get.f] at h
  rw [spec_l11Get.f]
  try simp only [w64_eq, wu8_eq, gt_iff_lt, ge_iff_le, int_beq, fdiv33, fdiv45, bt_eq, tmodN, rdOfB, rdOfL] at h
  try simp only [shlR]
  try simp only [w64_eq, wu8_eq, gt_iff_lt, ge_iff_le, int_beq, fdiv33, fdiv45, bt_eq, tmodN, rdOfB, rdOfL, rdT3_eq, seq, maxI, minI, emp_eq, rdn3, rdn96, rdn108, rdn88, rdn4, rdn53]
  refine (itE h (fun q h => ?_) (fun q h => (itE h (fun q h => (itE h (fun q h => (itE h (fun q h => (itE h (fun q h => (itE h (fun q h => ?_) (fun q h => (itE h (fun q h => (itE h (fun q h => (itE h (fun q h => (itE h (fun q h => ?_) (fun q h => (noE h)))) (fun q h => (noE h)))) (fun q h => (noE h)))) (fun q h => (noE h)))))) (fun q h => (noE h)))) (fun q h => (noE h)))) (fun q h => (noE h)))) (fun q h => (noE h)))))
  all_goals (try cases h)
  all_goals (try simp only [*, if_true, if_false, ↓reduceIte, Option.bind_some, List.length_cons, List.length_nil, List.length_append, Bool.not_true, Bool.not_false, Bool.true_eq_false, Bool.false_eq_true])
  all_goals (repeat first | rw [if_pos (by omega)] | rw [if_neg (by omega)])
  all_goals first | exact h | apply h | rfl | (simp_all [-Bool.forall_bool]; done) | (simp_all [-Bool.forall_bool]; first | exact h | apply h) | (simp_all [-Bool.forall_bool, emp_eq, int_beq]; done) | (simp_all [-Bool.forall_bool]; (intros; simp_all; done)) | (simp_all [-Bool.forall_bool, rdset3, rdset96, rdset108, rdset88, rdset4, rdset53]; done) | grind
end Go.Proofs.Yteideicglgpfiaa.M2

/- What the print's plain functions answer, the own ones answer. Written by a program of this session. -/
namespace Go.Proofs.Yteideicglgpfiaa.M2
open Go Go.RowKit Go.Proofs.YteideicglgpfiaaW.PrintWords Go.Proofs.Yteideicglgpfiaa.PK
set_option linter.unusedVariables false
set_option linter.unusedSimpArgs false
theorem spec_l12At.rel_l (k : Nat) : (∀ x1 x5 x244000 x244001 x244002 r, PK.spec_l12At.l0 k x1 x5 x244000 x244001 x244002 = some r → ∀ m, k ≤ m → spec_l12At.c2 m x1 x5 x244000 x244001 x244002 = some r) := by
  induction k using Nat.strongRecOn with
  | _ k ih =>
  have il0 := fun k' hk' => (ih k' hk')
  clear ih
  intro x1 x5 x244000 x244001 x244002 r h m hm
  cases k with
  | zero => simp only [PK.spec_l12At.l0] at h; cases h
  | succ k =>
    obtain ⟨m, rfl⟩ : ∃ m', m = m' + 1 := ⟨m - 1, by omega⟩
    rw [PK.spec_l12At.l0] at h
    rw [spec_l12At.c2]
    try simp only [w64_eq, wu8_eq, gt_iff_lt, ge_iff_le, int_beq, fdiv33, fdiv45, bt_eq, tmodN, rdOfB, rdOfL] at h
    try simp only [shlR]
    try simp only [w64_eq, wu8_eq, gt_iff_lt, ge_iff_le, int_beq, fdiv33, fdiv45, bt_eq, tmodN, rdOfB, rdOfL, rdT3_eq, seq, maxI, minI, emp_eq, rdn3, rdn96, rdn108, rdn88, rdn4, rdn53]
    refine (itE h (fun q h => (itE h (fun q h => (itE h (fun q h => ?_) (fun q h => ((fun h => ?_) (il0 _ (by omega) _ _ _ _ _ _ h m (by omega)))))) (fun q h => (noE h)))) (fun q h => ?_))
    all_goals clear il0
    all_goals (try cases h)
    all_goals (try simp only [*, if_true, if_false, ↓reduceIte, Option.bind_some, List.length_cons, List.length_nil, List.length_append, Bool.not_true, Bool.not_false, Bool.true_eq_false, Bool.false_eq_true])
    all_goals (repeat first | rw [if_pos (by omega)] | rw [if_neg (by omega)])
    all_goals first | exact h | apply h | rfl | (simp_all [-Bool.forall_bool]; done) | (simp_all [-Bool.forall_bool]; first | exact h | apply h) | (simp_all [-Bool.forall_bool, emp_eq, int_beq]; done) | (simp_all [-Bool.forall_bool]; (intros; simp_all; done)) | (simp_all [-Bool.forall_bool, rdset3, rdset96, rdset108, rdset88, rdset4, rdset53]; done) | grind
theorem spec_l12At.rel (k : Nat) (l0_0 : List (S53)) (l0_1 : List (S88)) (a0_2 : Int) (a1 : Int) (r) (h : PK.spec_l12At.f k l0_0 l0_1 a0_2 a1 = some r) (m : Nat) (hm : k ≤ m) : spec_l12At.f m l0_0 l0_1 a0_2 a1 = some r := by
  have il0 := fun k' (_ : k' < k + 1) => (spec_l12At.rel_l k')
  rw [PK.spec_l12At.f] at h
  rw [spec_l12At.f]
  try simp only [w64_eq, wu8_eq, gt_iff_lt, ge_iff_le, int_beq, fdiv33, fdiv45, bt_eq, tmodN, rdOfB, rdOfL] at h
  try simp only [shlR]
  try simp only [w64_eq, wu8_eq, gt_iff_lt, ge_iff_le, int_beq, fdiv33, fdiv45, bt_eq, tmodN, rdOfB, rdOfL, rdT3_eq, seq, maxI, minI, emp_eq, rdn3, rdn96, rdn108, rdn88, rdn4, rdn53]
  refine ((fun h => ?_) (il0 _ (by omega) _ _ _ _ _ _ h m (by omega)))
  all_goals clear il0
  all_goals (try cases h)
  all_goals (try simp only [*, if_true, if_false, ↓reduceIte, Option.bind_some, List.length_cons, List.length_nil, List.length_append, Bool.not_true, Bool.not_false, Bool.true_eq_false, Bool.false_eq_true])
  all_goals (repeat first | rw [if_pos (by omega)] | rw [if_neg (by omega)])
  all_goals first | exact h | apply h | rfl | (simp_all [-Bool.forall_bool]; done) | (simp_all [-Bool.forall_bool]; first | exact h | apply h) | (simp_all [-Bool.forall_bool, emp_eq, int_beq]; done) | (simp_all [-Bool.forall_bool]; (intros; simp_all; done)) | (simp_all [-Bool.forall_bool, rdset3, rdset96, rdset108, rdset88, rdset4, rdset53]; done) | grind

theorem spec_l11Has.rel_l (k : Nat) : (∀ x1 x5 x6 x139000 r, PK.spec_l11Has.l0 k x1 x5 x6 x139000 = some r → ∀ m, k ≤ m → spec_l11Has.c6 m x1 x6 x139000 x5 = some r) := by
  induction k using Nat.strongRecOn with
  | _ k ih =>
  have il0 := fun k' hk' => (ih k' hk')
  clear ih
  intro x1 x5 x6 x139000 r h m hm
  cases k with
  | zero => simp only [PK.spec_l11Has.l0] at h; cases h
  | succ k =>
    obtain ⟨m, rfl⟩ : ∃ m', m = m' + 1 := ⟨m - 1, by omega⟩
    rw [PK.spec_l11Has.l0] at h
    rw [spec_l11Has.c6]
    try simp only [w64_eq, wu8_eq, gt_iff_lt, ge_iff_le, int_beq, fdiv33, fdiv45, bt_eq, tmodN, rdOfB, rdOfL] at h
    try simp only [shlR]
    try simp only [w64_eq, wu8_eq, gt_iff_lt, ge_iff_le, int_beq, fdiv33, fdiv45, bt_eq, tmodN, rdOfB, rdOfL, rdT3_eq, seq, maxI, minI, emp_eq, rdn3, rdn96, rdn108, rdn88, rdn4, rdn53]
    refine (itE h (fun q h => (itE h (fun q h => (itE h (fun q h => (itE h (fun q h => (itE h (fun q h => (itE h (fun q h => (itE h (fun q h => (itE h (fun q h => ((fun h => ?_) (il0 _ (by omega) _ _ _ _ _ h m (by omega)))) (fun q h => (noE h)))) (fun q h => (noE h)))) (fun q h => ((fun h => ?_) (il0 _ (by omega) _ _ _ _ _ h m (by omega)))))) (fun q h => (noE h)))) (fun q h => (noE h)))) (fun q h => (noE h)))) (fun q h => (noE h)))) (fun q h => ?_))
    all_goals clear il0
    all_goals (try cases h)
    all_goals (try simp only [*, if_true, if_false, ↓reduceIte, Option.bind_some, List.length_cons, List.length_nil, List.length_append, Bool.not_true, Bool.not_false, Bool.true_eq_false, Bool.false_eq_true])
    all_goals (repeat first | rw [if_pos (by omega)] | rw [if_neg (by omega)])
    all_goals first | exact h | apply h | rfl | (simp_all [-Bool.forall_bool]; done) | (simp_all [-Bool.forall_bool]; first | exact h | apply h) | (simp_all [-Bool.forall_bool, emp_eq, int_beq]; done) | (simp_all [-Bool.forall_bool]; (intros; simp_all; done)) | (simp_all [-Bool.forall_bool, rdset3, rdset96, rdset108, rdset88, rdset4, rdset53]; done) | grind
theorem spec_l11Has.rel (k : Nat) (l0_0 : List (S88)) (a1 : Int) (r) (h : PK.spec_l11Has.f k l0_0 a1 = some r) (m : Nat) (hm : k ≤ m) : spec_l11Has.f m l0_0 a1 = some r := by
  have il0 := fun k' (_ : k' < k + 1) => (spec_l11Has.rel_l k')
  rw [PK.spec_l11Has.f] at h
  rw [spec_l11Has.f]
  try simp only [w64_eq, wu8_eq, gt_iff_lt, ge_iff_le, int_beq, fdiv33, fdiv45, bt_eq, tmodN, rdOfB, rdOfL] at h
  try simp only [shlR]
  try simp only [w64_eq, wu8_eq, gt_iff_lt, ge_iff_le, int_beq, fdiv33, fdiv45, bt_eq, tmodN, rdOfB, rdOfL, rdT3_eq, seq, maxI, minI, emp_eq, rdn3, rdn96, rdn108, rdn88, rdn4, rdn53]
  refine (itE h (fun q h => (itE h (fun q h => (bsE h (fun h => (itE h (fun q h => ?_) (fun q h => (itE h (fun q h => (itE h (fun q h => ((fun h => ?_) (il0 _ (by omega) _ _ _ _ _ h m (by omega)))) (fun q h => (noE h)))) (fun q h => (noE h)))))))) (fun q h => (noE h)))) (fun q h => (noE h)))
  all_goals clear il0
  all_goals (try cases h)
  all_goals (try simp only [*, if_true, if_false, ↓reduceIte, Option.bind_some, List.length_cons, List.length_nil, List.length_append, Bool.not_true, Bool.not_false, Bool.true_eq_false, Bool.false_eq_true])
  all_goals (repeat first | rw [if_pos (by omega)] | rw [if_neg (by omega)])
  all_goals first | exact h | apply h | rfl | (simp_all [-Bool.forall_bool]; done) | (simp_all [-Bool.forall_bool]; first | exact h | apply h) | (simp_all [-Bool.forall_bool, emp_eq, int_beq]; done) | (simp_all [-Bool.forall_bool]; (intros; simp_all; done)) | (simp_all [-Bool.forall_bool, rdset3, rdset96, rdset108, rdset88, rdset4, rdset53]; done) | grind
end Go.Proofs.Yteideicglgpfiaa.M2
