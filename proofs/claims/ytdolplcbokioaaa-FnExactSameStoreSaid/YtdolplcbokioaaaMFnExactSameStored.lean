/- FnExactSameStore: functions of the translation as Lean functions with what their calls come to, plain lemmas on them, and, at the end, the row. Parts of one proof, merged by a program of this session; each part's own sentence stands at its head. -/
import Derived.ChangeArms
import Derived.DataReads
import Derived.Test.YtdolplcbokioaaaMFnExactSameStorec
/- Functions of the translation as plain Lean functions, and for each that its call comes to just what its Lean function answers; its conditions stand in each theorem. Written by a program of this session. -/
namespace Go.Proofs.Ytdolplcbokioaaa.PB
open Go.RowKit Go.Proofs.YtdolplcbokioaaaW.PrintWords Go.Proofs.YtdolplcbokioaaaW.PrintLast Go.Proofs.YtdolplcbokioaaaW.PrintMore
attribute [local go_sem] max2_int min2_int max_two min_two max_three min_three max_four min_four   -- for this text's walks alone
set_option linter.unusedVariables false
set_option linter.unusedSimpArgs false

/-! ### impl_SameStore: function 67 -/
mutual
def impl_SameStore.j0 : Nat → Bool → List (S147) → List (S133) → Int → List (S147) → List (S133) → Int → Option (Bool)
  | 0, _, _, _, _, _, _, _ => none
  | k + 1, x24, x1393000, x1393001, x1393002, x1394000, x1394001, x1394002 => if x24 = true then (some false) else (impl_SameStore.l0 k x1393000 (x1393000.length : Int) 0 x1393000 x1393001 x1393002 x1394000 x1394001 x1394002)
def impl_SameStore.l0 : Nat → List (S147) → Int → Int → List (S147) → List (S133) → Int → List (S147) → List (S133) → Int → Option (Bool)
  | 0, _, _, _, _, _, _, _, _, _ => none
  | k + 1, x26, x27, x28, x1393000, x1393001, x1393002, x1394000, x1394001, x1394002 => if x28 < x27 then (if 0 ≤ x28 then (if x28 < (x26.length : Int) then (if x28 < (x1394000.length : Int) then ((impl_AllAt.f k x1394001 ((rd_T147 x1394000 x28).f1)).bind fun t1398 => (if ((rd_T147 x26 x28).f0) = ((rd_T147 x1394000 x28).f0) then ((impl_AllAt.f k x1393001 ((rd_T147 x26 x28).f1)).bind fun t1401 => (impl_SameStore.l1 k t1398 x26 x27 x28 t1401 (t1401.length : Int) 0 x1393000 x1393001 x1393002 x1394000 x1394001 x1394002)) else (some false))) else (none)) else (none)) else (none)) else (some true)
def impl_SameStore.l1 : Nat → List Int → List (S147) → Int → Int → List Int → Int → Int → List (S147) → List (S133) → Int → List (S147) → List (S133) → Int → Option (Bool)
  | 0, _, _, _, _, _, _, _, _, _, _, _, _, _ => none
  | k + 1, x8, x26, x27, x28, x52, x53, x54, x1393000, x1393001, x1393002, x1394000, x1394001, x1394002 => if x54 < x53 then (if 0 ≤ x54 then (if x54 < (x52.length : Int) then (if x54 < (x8.length : Int) then (if (rd x52 x54) = (rd x8 x54) then (impl_SameStore.l1 k x8 x26 x27 x28 x52 x53 (wrap64 (x54 + 1)) x1393000 x1393001 x1393002 x1394000 x1394001 x1394002) else (some false)) else (none)) else (none)) else (none)) else (impl_SameStore.l0 k x26 x27 (wrap64 (x28 + 1)) x1393000 x1393001 x1393002 x1394000 x1394001 x1394002)
end
def impl_SameStore.f (k : Nat) (l0_0 : List (S147)) (l0_1 : List (S133)) (a0_2 : Int) (l1_0 : List (S147)) (l1_1 : List (S133)) (a1_2 : Int) : Option (Bool) := if (l0_0.length : Int) = (l1_0.length : Int) then (impl_SameStore.j0 k (a0_2 != a1_2) l0_0 l0_1 a0_2 l1_0 l1_1 a1_2) else (impl_SameStore.j0 k true l0_0 l0_1 a0_2 l1_0 l1_1 a1_2)
theorem impl_SameStore.mono_l : ∀ k, (∀ y0 y1 y2 y3 y4 y5 y6, LeO (impl_SameStore.j0 k y0 y1 y2 y3 y4 y5 y6) (impl_SameStore.j0 (k + 1) y0 y1 y2 y3 y4 y5 y6)) ∧ (∀ y0 y1 y2 y3 y4 y5 y6 y7 y8, LeO (impl_SameStore.l0 k y0 y1 y2 y3 y4 y5 y6 y7 y8) (impl_SameStore.l0 (k + 1) y0 y1 y2 y3 y4 y5 y6 y7 y8)) ∧ (∀ y0 y1 y2 y3 y4 y5 y6 y7 y8 y9 y10 y11 y12, LeO (impl_SameStore.l1 k y0 y1 y2 y3 y4 y5 y6 y7 y8 y9 y10 y11 y12) (impl_SameStore.l1 (k + 1) y0 y1 y2 y3 y4 y5 y6 y7 y8 y9 y10 y11 y12))
  | 0 => ⟨fun _ _ _ _ _ _ _ r h => by simp [impl_SameStore.j0] at h, fun _ _ _ _ _ _ _ _ _ r h => by simp [impl_SameStore.l0] at h, fun _ _ _ _ _ _ _ _ _ _ _ _ _ r h => by simp [impl_SameStore.l1] at h⟩
  | k + 1 => by
    obtain ⟨ih0, ih1, ih2⟩ := impl_SameStore.mono_l k
    refine ⟨?_, ?_, ?_⟩
    · intro y0 y1 y2 y3 y4 y5 y6
      unfold impl_SameStore.j0
      repeat' first
      | (with_reducible exact ih0 _ _ _ _ _ _ _)
      | (with_reducible exact ih1 _ _ _ _ _ _ _ _ _)
      | (with_reducible exact ih2 _ _ _ _ _ _ _ _ _ _ _ _ _)
      | (with_reducible exact impl_AllAt.mono _ _ _)
      | (with_reducible exact LeO.refl _)
      | (with_reducible exact LeO.none _)
      | (with_reducible refine LeO.ite ?_ ?_)
      | (with_reducible refine LeO.bind ?_ (fun _ => ?_))
      | exact ih0 _ _ _ _ _ _ _
      | exact ih1 _ _ _ _ _ _ _ _ _
      | exact ih2 _ _ _ _ _ _ _ _ _ _ _ _ _
      | exact impl_AllAt.mono _ _ _
      | exact LeO.none _
      | refine LeO.ite ?_ ?_
      | refine LeO.bind ?_ (fun _ => ?_)
    · intro y0 y1 y2 y3 y4 y5 y6 y7 y8
      unfold impl_SameStore.l0
      repeat' first
      | (with_reducible exact ih0 _ _ _ _ _ _ _)
      | (with_reducible exact ih1 _ _ _ _ _ _ _ _ _)
      | (with_reducible exact ih2 _ _ _ _ _ _ _ _ _ _ _ _ _)
      | (with_reducible exact impl_AllAt.mono _ _ _)
      | (with_reducible exact LeO.refl _)
      | (with_reducible exact LeO.none _)
      | (with_reducible refine LeO.ite ?_ ?_)
      | (with_reducible refine LeO.bind ?_ (fun _ => ?_))
      | exact ih0 _ _ _ _ _ _ _
      | exact ih1 _ _ _ _ _ _ _ _ _
      | exact ih2 _ _ _ _ _ _ _ _ _ _ _ _ _
      | exact impl_AllAt.mono _ _ _
      | exact LeO.none _
      | refine LeO.ite ?_ ?_
      | refine LeO.bind ?_ (fun _ => ?_)
    · intro y0 y1 y2 y3 y4 y5 y6 y7 y8 y9 y10 y11 y12
      unfold impl_SameStore.l1
      repeat' first
      | (with_reducible exact ih0 _ _ _ _ _ _ _)
      | (with_reducible exact ih1 _ _ _ _ _ _ _ _ _)
      | (with_reducible exact ih2 _ _ _ _ _ _ _ _ _ _ _ _ _)
      | (with_reducible exact impl_AllAt.mono _ _ _)
      | (with_reducible exact LeO.refl _)
      | (with_reducible exact LeO.none _)
      | (with_reducible refine LeO.ite ?_ ?_)
      | (with_reducible refine LeO.bind ?_ (fun _ => ?_))
      | exact ih0 _ _ _ _ _ _ _
      | exact ih1 _ _ _ _ _ _ _ _ _
      | exact ih2 _ _ _ _ _ _ _ _ _ _ _ _ _
      | exact impl_AllAt.mono _ _ _
      | exact LeO.none _
      | refine LeO.ite ?_ ?_
      | refine LeO.bind ?_ (fun _ => ?_)
theorem impl_SameStore.mono : ∀ a0 a1 a2 a3 a4 a5 k, LeO (impl_SameStore.f k a0 a1 a2 a3 a4 a5) (impl_SameStore.f (k + 1) a0 a1 a2 a3 a4 a5) := by
  intro a0 a1 a2 a3 a4 a5 k
  obtain ⟨ih0, ih1, ih2⟩ := impl_SameStore.mono_l k
  unfold impl_SameStore.f
  repeat' first
      | (with_reducible exact ih0 _ _ _ _ _ _ _)
      | (with_reducible exact ih1 _ _ _ _ _ _ _ _ _)
      | (with_reducible exact ih2 _ _ _ _ _ _ _ _ _ _ _ _ _)
      | (with_reducible exact impl_AllAt.mono _ _ _)
      | (with_reducible exact LeO.refl _)
      | (with_reducible exact LeO.none _)
      | (with_reducible refine LeO.ite ?_ ?_)
      | (with_reducible refine LeO.bind ?_ (fun _ => ?_))
      | exact ih0 _ _ _ _ _ _ _
      | exact ih1 _ _ _ _ _ _ _ _ _
      | exact ih2 _ _ _ _ _ _ _ _ _ _ _ _ _
      | exact impl_AllAt.mono _ _ _
      | exact LeO.none _
      | refine LeO.ite ?_ ?_
      | refine LeO.bind ?_ (fun _ => ?_)
set_option maxHeartbeats 8000000 in
set_option maxRecDepth 100000 in
theorem impl_SameStore.calls (k : Nat) (A0_0 : Option Addr) (c0_0 : Nat) (l0_0 : List (S147)) (A0_1 : Option Addr) (c0_1 : Nat) (l0_1 : List (S133)) (a0_2 : Int) (A1_0 : Option Addr) (c1_0 : Nat) (l1_0 : List (S147)) (A1_1 : Option Addr) (c1_1 : Nat) (l1_1 : List (S133)) (a1_2 : Int) (r : Bool) (w : World) (hr0_0 : Kd.C k147 w A0_0 l0_0.length l0_0) (hc0_0 : l0_0.length ≤ c0_0) (hr0_1 : Kd.C k133 w A0_1 l0_1.length l0_1) (hc0_1 : l0_1.length ≤ c0_1) (hr1_0 : Kd.C k147 w A1_0 l1_0.length l1_0) (hc1_0 : l1_0.length ≤ c1_0) (hr1_1 : Kd.C k133 w A1_1 l1_1.length l1_1) (hc1_1 : l1_1.length ≤ c1_1) (h : impl_SameStore.f k l0_0 l0_1 a0_2 l1_0 l1_1 a1_2 = some r) :
    Calls Try.prog 67 #[.agg #[.slice A0_0 l0_0.length c0_0, .slice A0_1 l0_1.length c0_1, .int .i64 a0_2], .agg #[.slice A1_0 l1_0.length c1_0, .slice A1_1 l1_1.length c1_1, .int .i64 a1_2]] w fun e w' => e = .returned (.bool r) ∧ Below w.heap.size w w' := by
  have hu83 := Try.underlying83
  have hu147 := Try.underlying147
  have hu44 := Try.underlying44
  have HR0_0 := Aside0.mk hr0_0
  have HC0_0 := Aside0.mk hc0_0
  clear hr0_0 hc0_0
  have HR0_1 := Aside0.mk hr0_1
  have HC0_1 := Aside0.mk hc0_1
  clear hr0_1 hc0_1
  have HR1_0 := Aside0.mk hr1_0
  have HC1_0 := Aside0.mk hc1_0
  clear hr1_0 hc1_0
  have HR1_1 := Aside0.mk hr1_1
  have HC1_1 := Aside0.mk hc1_1
  clear hr1_1 hc1_1
  have HB := Aside0.mk (Below.refl w.heap.size w)
  have H : (if (l0_0.length : Int) = (l1_0.length : Int) then (impl_SameStore.j0 k (a0_2 != a1_2) l0_0 l0_1 a0_2 l1_0 l1_1 a1_2) else (impl_SameStore.j0 k true l0_0 l0_1 a0_2 l1_0 l1_1 a1_2)) = some r := h
  clear h
  have HC3 := Aside0.mk H
  clear H
  go_enter Try.func67, Try.ntmps67
  go_upto_region 1 with (first | ((with_reducible refine gate_dst (N := 2) rfl ?_); refine box_event ?hg (N := 2) ?hd (cs := #[.slice A0_0 l0_0.length c0_0, .slice A0_1 l0_1.length c0_1, .int .i64 a0_2]) (t := 83) ?hr ?_; (case hd => rfl); (case hg => rfl); (case hr => first | (go_simp; done) | (go_simp; rfl)); intro gb1392 hg w4 hbox hb; have n0_ := Aside0.mk (below_step (by repeat (first | (with_reducible first | exact HB.out | apply below_alloc | apply pw_below_drewN | apply below_drew1) | exact HB.out)) hb); have n1_ := Aside0.mk (hbox); have n2_ := Aside0.mk ((by rw [hg]; exact (below_size (by repeat (first | (with_reducible first | exact HB.out | apply below_alloc | apply pw_below_drewN | apply below_drew1) | exact HB.out))) : w.heap.size ≤ gb1392)); have n3_ := Aside0.mk ((by rw [hg]; exact (below_size (by repeat (first | (with_reducible first | exact HB.out | apply below_alloc | apply pw_below_drewN | apply below_drew1) | exact HB.out))) : w.heap.size ≤ gb1392)); clear HB; have HB := n0_; have BK1392 := n1_; have GW1392 := n2_; have GE1392 := n3_; clear n0_ n1_ n2_ n3_; clear hb hbox hg) | ((with_reducible refine gate_dst (N := 3) rfl ?_); refine box_event ?hg (N := 3) ?hd (cs := #[.slice A1_0 l1_0.length c1_0, .slice A1_1 l1_1.length c1_1, .int .i64 a1_2]) (t := 83) ?hr ?_; (case hd => rfl); (case hg => rfl); (case hr => first | (go_simp; done) | (go_simp; rfl)); intro gb1393 hg w5 hbox hb; have n0_ := Aside0.mk (blk_below (g := gb1392) (o := .cells #[.slice A0_0 l0_0.length c0_0, .slice A0_1 l0_1.length c0_1, .int .i64 a0_2] 83 (0, 0)) (by (with_reducible repeat (first | refine blk_drewN ?_ _ | refine blk_drew ?_ | refine blk_alloc ?_ _)); exact BK1392.out) hb); have n1_ := Aside0.mk (below_step (by repeat (first | (with_reducible first | exact HB.out | apply below_alloc | apply pw_below_drewN | apply below_drew1 | refine below_set ?_ GE1392.out) | exact HB.out)) hb); have n2_ := Aside0.mk (hbox); have n3_ := Aside0.mk ((by rw [hg]; exact (below_size (by repeat (first | (with_reducible first | exact HB.out | apply below_alloc | apply pw_below_drewN | apply below_drew1 | refine below_set ?_ GE1392.out) | exact HB.out))) : w.heap.size ≤ gb1393)); have n4_ := Aside0.mk ((by rw [hg]; exact (below_size (by repeat (first | (with_reducible first | exact HB.out | apply below_alloc | apply pw_below_drewN | apply below_drew1 | refine below_set ?_ GE1392.out) | exact HB.out))) : w.heap.size ≤ gb1393)); have n5_ := Aside0.mk ((by rw [hg]; exact Nat.ne_of_lt (blk_lt (g := gb1392) (o := .cells #[.slice A0_0 l0_0.length c0_0, .slice A0_1 l0_1.length c0_1, .int .i64 a0_2] 83 (0, 0)) (by (with_reducible repeat (first | refine blk_drewN ?_ _ | refine blk_drew ?_ | refine blk_alloc ?_ _)); exact BK1392.out)) : gb1392 ≠ gb1393)); have n6_ := Aside0.mk ((by rw [hg]; exact Nat.ne_of_gt (blk_lt (g := gb1392) (o := .cells #[.slice A0_0 l0_0.length c0_0, .slice A0_1 l0_1.length c0_1, .int .i64 a0_2] 83 (0, 0)) (by (with_reducible repeat (first | refine blk_drewN ?_ _ | refine blk_drew ?_ | refine blk_alloc ?_ _)); exact BK1392.out)) : gb1393 ≠ gb1392)); clear BK1392; clear HB; have BK1392 := n0_; have HB := n1_; have BK1393 := n2_; have GW1393 := n3_; have GE1393 := n4_; have NB1392_1393 := n5_; have NB1393_1392 := n6_; clear n0_ n1_ n2_ n3_ n4_ n5_ n6_; clear hb hbox hg))
  (try simp only [Act.put, List.setIfInBounds_toArray, List.set_cons_zero, List.set_cons_succ])
  go_cut [24] (fun v24 wc => ∃ (kq : Nat) (x24_2 : Bool), v24 = .bool x24_2 ∧ Aside0 (impl_SameStore.j0 kq x24_2 l0_0 l0_1 a0_2 l1_0 l1_1 a1_2 = some r) ∧ Aside0 (kq ≤ k) ∧ Aside0 (wc.heap[gb1392]? = some (.cells #[(.slice A0_0 l0_0.length c0_0), (.slice A0_1 l0_1.length c0_1), .int .i64 a0_2] 83 (0, 0))) ∧ Aside0 (wc.heap[gb1393]? = some (.cells #[(.slice A1_0 l1_0.length c1_0), (.slice A1_1 l1_1.length c1_1), .int .i64 a1_2] 83 (0, 0))) ∧ Aside0 (Below w.heap.size w wc))
  case first =>
    have H := HC3.out
    clear HC3
    by_cases c6 : (l0_0.length : Int) = (l1_0.length : Int)
    · rw [if_pos c6] at H
      have c6b0 : ((l0_0.length : Int) == (l1_0.length : Int)) = true := beq_iff_eq.mpr c6
      have c6b1 : ((l0_0.length : Int) != (l1_0.length : Int)) = false := bne_eq_false_iff_eq.mpr c6
      have c6b2 : (l0_0.length == l1_0.length) = true := by first | simpa using c6 | (simp at c6 ⊢; omega)
      clear c6
      (first | rw [c6b0] | (simp only [i64_w, i32_w]; rw [c6b0]) | skip)
      have H' := Aside0.mk H
      clear H
      have hnb7 := NB1392_1393.out
      have hnc7 := NB1393_1392.out
      have hcz8_0 : w5.cell? ⟨gb1392, 0, none⟩ = some (.slice A0_0 l0_0.length c0_0) := (blk_cell BK1392.out 0).trans rfl
      have hcz8_1 : w5.cell? ⟨gb1392, 1, none⟩ = some (.slice A0_1 l0_1.length c0_1) := (blk_cell BK1392.out 1).trans rfl
      have hcz8_2 : w5.cell? ⟨gb1392, 2, none⟩ = some (.int .i64 a0_2) := (blk_cell BK1392.out 2).trans rfl
      have hfz8_0 := blk_frozen BK1392.out 0
      have hfz8_1 := blk_frozen BK1392.out 1
      have hfz8_2 := blk_frozen BK1392.out 2
      have hcz9_0 : w5.cell? ⟨gb1393, 0, none⟩ = some (.slice A1_0 l1_0.length c1_0) := (blk_cell BK1393.out 0).trans rfl
      have hcz9_1 : w5.cell? ⟨gb1393, 1, none⟩ = some (.slice A1_1 l1_1.length c1_1) := (blk_cell BK1393.out 1).trans rfl
      have hcz9_2 : w5.cell? ⟨gb1393, 2, none⟩ = some (.int .i64 a1_2) := (blk_cell BK1393.out 2).trans rfl
      have hfz9_0 := blk_frozen BK1393.out 0
      have hfz9_1 := blk_frozen BK1393.out 1
      have hfz9_2 := blk_frozen BK1393.out 2
      go_wp2
      go_meet
      case rel => exact ⟨_, ((a0_2 != a1_2)), (by first | rfl | (simp; done) | (simp [*]; done)), H', ⟨by first | omega | exact Nat.le_refl _⟩, ⟨by (with_reducible repeat (first | refine blk_drewN ?_ _ | refine blk_drew ?_ | refine blk_alloc ?_ _)); exact BK1392.out⟩, ⟨by (with_reducible repeat (first | refine blk_drewN ?_ _ | refine blk_drew ?_ | refine blk_alloc ?_ _)); exact BK1393.out⟩, ⟨by repeat (first | (with_reducible first | exact HB.out | apply below_alloc | apply pw_below_drewN | apply below_drew1 | refine below_set ?_ GE1392.out | refine below_set ?_ GE1393.out) | exact HB.out)⟩⟩
    · rw [if_neg c6] at H
      have c6b0 : ((l0_0.length : Int) == (l1_0.length : Int)) = false := beq_eq_false_iff_ne.mpr c6
      have c6b1 : ((l0_0.length : Int) != (l1_0.length : Int)) = true := bne_iff_ne.mpr c6
      have c6b2 : (l0_0.length == l1_0.length) = false := by first | simpa using c6 | (simp at c6 ⊢; omega)
      (first | rw [c6b0] | (simp only [i64_w, i32_w]; rw [c6b0]) | skip)
      have H' := Aside0.mk H
      clear H
      have hnb10 := NB1392_1393.out
      have hnc10 := NB1393_1392.out
      have hcz11_0 : w5.cell? ⟨gb1392, 0, none⟩ = some (.slice A0_0 l0_0.length c0_0) := (blk_cell BK1392.out 0).trans rfl
      have hcz11_1 : w5.cell? ⟨gb1392, 1, none⟩ = some (.slice A0_1 l0_1.length c0_1) := (blk_cell BK1392.out 1).trans rfl
      have hcz11_2 : w5.cell? ⟨gb1392, 2, none⟩ = some (.int .i64 a0_2) := (blk_cell BK1392.out 2).trans rfl
      have hfz11_0 := blk_frozen BK1392.out 0
      have hfz11_1 := blk_frozen BK1392.out 1
      have hfz11_2 := blk_frozen BK1392.out 2
      have hcz12_0 : w5.cell? ⟨gb1393, 0, none⟩ = some (.slice A1_0 l1_0.length c1_0) := (blk_cell BK1393.out 0).trans rfl
      have hcz12_1 : w5.cell? ⟨gb1393, 1, none⟩ = some (.slice A1_1 l1_1.length c1_1) := (blk_cell BK1393.out 1).trans rfl
      have hcz12_2 : w5.cell? ⟨gb1393, 2, none⟩ = some (.int .i64 a1_2) := (blk_cell BK1393.out 2).trans rfl
      have hfz12_0 := blk_frozen BK1393.out 0
      have hfz12_1 := blk_frozen BK1393.out 1
      have hfz12_2 := blk_frozen BK1393.out 2
      go_wp2
      go_meet
      case rel => exact ⟨_, (true), (by first | rfl | (simp; done) | (simp [*]; done)), H', ⟨by first | omega | exact Nat.le_refl _⟩, ⟨by (with_reducible repeat (first | refine blk_drewN ?_ _ | refine blk_drew ?_ | refine blk_alloc ?_ _)); exact BK1392.out⟩, ⟨by (with_reducible repeat (first | refine blk_drewN ?_ _ | refine blk_drew ?_ | refine blk_alloc ?_ _)); exact BK1393.out⟩, ⟨by repeat (first | (with_reducible first | exact HB.out | apply below_alloc | apply pw_below_drewN | apply below_drew1 | refine below_set ?_ GE1392.out | refine below_set ?_ GE1393.out) | exact HB.out)⟩⟩
  case rest =>
    clear HC3
    try clear c1
    try clear p2
    try clear c6
    try clear c6b0
    try clear c6b1
    try clear c6b2
    try clear c7
    try clear c10
    try clear hcz11_0
    try clear hcz11_1
    try clear hcz11_2
    try clear hcz12_0
    try clear hcz12_1
    try clear hcz12_2
    try clear hcz8_0
    try clear hcz8_1
    try clear hcz8_2
    try clear hcz9_0
    try clear hcz9_1
    try clear hcz9_2
    try clear hfz11_0
    try clear hfz11_1
    try clear hfz11_2
    try clear hfz12_0
    try clear hfz12_1
    try clear hfz12_2
    try clear hfz8_0
    try clear hfz8_1
    try clear hfz8_2
    try clear hfz9_0
    try clear hfz9_1
    try clear hfz9_2
    obtain ⟨kq, x24_2, rfl, HA, HJ2, BK1392, BK1393, HB⟩ := hcut
    cases kq with
    | zero => exact absurd HA.out (by simp [impl_SameStore.j0])
    | succ kj2 =>
      have H := HA.out
      clear HA
      simp only [impl_SameStore.j0] at H
      by_cases c13 : x24_2 = true
      · subst c13
        have H1 : (some false) = some r := by rw [if_pos rfl] at H; exact H
        clear H
        have H := H1
        clear H1
        obtain rfl := Option.some.inj H
        go_wp2
        go_ret
        exact ⟨by first | rfl | (simp [errW_none, errW_some] <;> rfl) | (simp [*, errW_none, errW_some] <;> rfl), by repeat (first | (with_reducible first | exact HB.out | apply below_alloc | apply pw_below_drewN | apply below_drew1 | refine below_set ?_ GE1392.out | refine below_set ?_ GE1393.out) | exact HB.out)⟩
      · replace c13 := Bool.eq_false_iff.mpr c13
        subst c13
        have H1 : (impl_SameStore.l0 kj2 l0_0 (l0_0.length : Int) 0 l0_0 l0_1 a0_2 l1_0 l1_1 a1_2) = some r := by rw [if_neg (show ¬ (false = true) by decide)] at H; exact H
        clear H
        have H := H1
        clear H1
        have H' := Aside0.mk H
        clear H
        have hnb14 := NB1392_1393.out
        have hnc14 := NB1393_1392.out
        have hcz15_0 : wc.cell? ⟨gb1392, 0, none⟩ = some (.slice A0_0 l0_0.length c0_0) := (blk_cell BK1392.out 0).trans rfl
        have hcz15_1 : wc.cell? ⟨gb1392, 1, none⟩ = some (.slice A0_1 l0_1.length c0_1) := (blk_cell BK1392.out 1).trans rfl
        have hcz15_2 : wc.cell? ⟨gb1392, 2, none⟩ = some (.int .i64 a0_2) := (blk_cell BK1392.out 2).trans rfl
        have hfz15_0 := blk_frozen BK1392.out 0
        have hfz15_1 := blk_frozen BK1392.out 1
        have hfz15_2 := blk_frozen BK1392.out 2
        go_wp2
        go_loopg [28] kj2 (fun kq v28 w' => ∃ (x28_2 : Int), v28 = .int .i64 x28_2 ∧ Aside0 (impl_SameStore.l0 kq l0_0 (l0_0.length : Int) x28_2 l0_0 l0_1 a0_2 l1_0 l1_1 a1_2 = some r) ∧ Aside0 (kq ≤ kj2) ∧ Aside0 (w'.heap[gb1392]? = some (.cells #[(.slice A0_0 l0_0.length c0_0), (.slice A0_1 l0_1.length c0_1), .int .i64 a0_2] 83 (0, 0))) ∧ Aside0 (w'.heap[gb1393]? = some (.cells #[(.slice A1_0 l1_0.length c1_0), (.slice A1_1 l1_1.length c1_1), .int .i64 a1_2] 83 (0, 0))) ∧ Aside0 (Below w.heap.size w w'))
        case atStart => exact ⟨(0), (by first | rfl | (simp; done) | (simp [*]; done)), H', ⟨Nat.le_refl _⟩, ⟨by (with_reducible repeat (first | refine blk_drewN ?_ _ | refine blk_drew ?_ | refine blk_alloc ?_ _)); exact BK1392.out⟩, ⟨by (with_reducible repeat (first | refine blk_drewN ?_ _ | refine blk_drew ?_ | refine blk_alloc ?_ _)); exact BK1393.out⟩, ⟨by repeat (first | (with_reducible first | exact HB.out | apply below_alloc | apply pw_below_drewN | apply below_drew1 | refine below_set ?_ GE1392.out | refine below_set ?_ GE1393.out) | exact HB.out)⟩⟩
        case round =>
          clear H'
          try clear c1
          try clear p2
          try clear c6
          try clear c6b0
          try clear c6b1
          try clear c6b2
          try clear c7
          try clear c10
          try clear c13
          try clear c14
          try clear hcz11_0
          try clear hcz11_1
          try clear hcz11_2
          try clear hcz12_0
          try clear hcz12_1
          try clear hcz12_2
          try clear hcz15_0
          try clear hcz15_1
          try clear hcz15_2
          try clear hcz8_0
          try clear hcz8_1
          try clear hcz8_2
          try clear hcz9_0
          try clear hcz9_1
          try clear hcz9_2
          try clear hfz11_0
          try clear hfz11_1
          try clear hfz11_2
          try clear hfz12_0
          try clear hfz12_1
          try clear hfz12_2
          try clear hfz15_0
          try clear hfz15_1
          try clear hfz15_2
          try clear hfz8_0
          try clear hfz8_1
          try clear hfz8_2
          try clear hfz9_0
          try clear hfz9_1
          try clear hfz9_2
          try clear p2
          obtain ⟨x28_2, rfl, HA, HK2, BK1392, BK1393, HB⟩ := hrel
          cases gk with
          | zero => exact absurd HA.out (by simp [impl_SameStore.l0])
          | succ k2 =>
            have H := HA.out
            clear HA
            simp only [impl_SameStore.l0] at H
            by_cases c16 : x28_2 < (l0_0.length : Int)
            · rw [if_pos c16] at H
              have c16b0 : decide (x28_2 < (l0_0.length : Int)) = true := decide_eq_true c16
              clear c16
              by_cases c17 : 0 ≤ x28_2
              · rw [if_pos c17] at H
                have c17b0 : decide (0 ≤ x28_2) = true := decide_eq_true c17
                clear c17
                by_cases c18 : x28_2 < (l0_0.length : Int)
                · rw [if_pos c18] at H
                  have c18b0 : decide (x28_2 < (l0_0.length : Int)) = true := decide_eq_true c18
                  clear c18
                  by_cases c19 : x28_2 < (l1_0.length : Int)
                  · rw [if_pos c19] at H
                    have c19b0 : decide (x28_2 < (l1_0.length : Int)) = true := decide_eq_true c19
                    clear c19
                    replace H := Option.bind_eq_some_iff.mp H
                    obtain ⟨t1398, A200, H⟩ := H
                    replace H : (if ((rd_T147 l0_0 x28_2).f0) = ((rd_T147 l1_0 x28_2).f0) then ((impl_AllAt.f k2 l0_1 ((rd_T147 l0_0 x28_2).f1)).bind fun t1401 => (impl_SameStore.l1 k2 t1398 l0_0 (l0_0.length : Int) x28_2 t1401 (t1401.length : Int) 0 l0_0 l0_1 a0_2 l1_0 l1_1 a1_2)) else (some false)) = some r := H
                    have A20 := Aside0.mk A200
                    clear A200
                    by_cases c21 : ((rd_T147 l0_0 x28_2).f0) = ((rd_T147 l1_0 x28_2).f0)
                    · rw [if_pos c21] at H
                      have c21b0 : (((rd_T147 l0_0 x28_2).f0) == ((rd_T147 l1_0 x28_2).f0)) = true := beq_iff_eq.mpr c21
                      have c21b1 : (((rd_T147 l0_0 x28_2).f0) != ((rd_T147 l1_0 x28_2).f0)) = false := bne_eq_false_iff_eq.mpr c21
                      clear c21
                      replace H := Option.bind_eq_some_iff.mp H
                      obtain ⟨t1401, A220, H⟩ := H
                      replace H : (impl_SameStore.l1 k2 t1398 l0_0 (l0_0.length : Int) x28_2 t1401 (t1401.length : Int) 0 l0_0 l0_1 a0_2 l1_0 l1_1 a1_2) = some r := H
                      have A22 := Aside0.mk A220
                      clear A220
                      have H' := Aside0.mk H
                      clear H
                      have p1394 : 0 ≤ (x28_2 : Int) := of_decide_eq_true (by first | (with_reducible assumption) | assumption)
                      have q1394 : x28_2 < (l0_0.length : Int) := of_decide_eq_true (by first | (with_reducible assumption) | assumption)
                      obtain ⟨ad1394, e1394, hx1394_0, hx1394_1⟩ := at_T147 HR0_0.out x28_2 p1394 q1394
                      cases e1394
                      replace hx1394_0 := (HB.out.cell (World.block_lt_of_cell? w _ hx1394_0)).trans hx1394_0
                      replace hx1394_1 := (HB.out.cell (World.block_lt_of_cell? w _ hx1394_1)).trans hx1394_1
                      replace p1394 := eq_true p1394
                      replace q1394 := eq_true q1394
                      go_wp2_with (first | ((with_reducible refine gate_dst (N := 6) rfl ?_); refine box_event ?hg (N := 6) ?hd (cs := #[.int .i64 0, .int .i64 0]) (t := 147) ?hr ?_; (case hd => rfl); (case hg => rfl); (case hr => first | (go_simp; done) | (go_simp; rfl)); intro gb1395 hg w23 hbox hb; have n0_ := Aside0.mk (blk_below (g := gb1392) (o := .cells #[.slice (some ad1394) l0_0.length c0_0, .slice A0_1 l0_1.length c0_1, .int .i64 a0_2] 83 (0, 0)) (by (with_reducible repeat (first | refine blk_drewN ?_ _ | refine blk_drew ?_ | refine blk_alloc ?_ _)); exact BK1392.out) hb); have n1_ := Aside0.mk (blk_below (g := gb1393) (o := .cells #[.slice A1_0 l1_0.length c1_0, .slice A1_1 l1_1.length c1_1, .int .i64 a1_2] 83 (0, 0)) (by (with_reducible repeat (first | refine blk_drewN ?_ _ | refine blk_drew ?_ | refine blk_alloc ?_ _)); exact BK1393.out) hb); have n2_ := Aside0.mk (below_step (by repeat (first | (with_reducible first | exact HB.out | apply below_alloc | apply pw_below_drewN | apply below_drew1 | refine below_set ?_ GE1392.out | refine below_set ?_ GE1393.out) | exact HB.out)) hb); have n3_ := Aside0.mk (hbox); have n4_ := Aside0.mk ((by rw [hg]; exact (below_size (by repeat (first | (with_reducible first | exact HB.out | apply below_alloc | apply pw_below_drewN | apply below_drew1 | refine below_set ?_ GE1392.out | refine below_set ?_ GE1393.out) | exact HB.out))) : w.heap.size ≤ gb1395)); have n5_ := Aside0.mk ((by rw [hg]; exact (below_size (by repeat (first | (with_reducible first | exact HB.out | apply below_alloc | apply pw_below_drewN | apply below_drew1 | refine below_set ?_ GE1392.out | refine below_set ?_ GE1393.out) | exact HB.out))) : w.heap.size ≤ gb1395)); have n6_ := Aside0.mk ((by rw [hg]; exact Nat.ne_of_lt (blk_lt (g := gb1392) (o := .cells #[.slice (some ad1394) l0_0.length c0_0, .slice A0_1 l0_1.length c0_1, .int .i64 a0_2] 83 (0, 0)) (by (with_reducible repeat (first | refine blk_drewN ?_ _ | refine blk_drew ?_ | refine blk_alloc ?_ _)); exact BK1392.out)) : gb1392 ≠ gb1395)); have n7_ := Aside0.mk ((by rw [hg]; exact Nat.ne_of_gt (blk_lt (g := gb1392) (o := .cells #[.slice (some ad1394) l0_0.length c0_0, .slice A0_1 l0_1.length c0_1, .int .i64 a0_2] 83 (0, 0)) (by (with_reducible repeat (first | refine blk_drewN ?_ _ | refine blk_drew ?_ | refine blk_alloc ?_ _)); exact BK1392.out)) : gb1395 ≠ gb1392)); have n8_ := Aside0.mk ((by rw [hg]; exact Nat.ne_of_lt (blk_lt (g := gb1393) (o := .cells #[.slice A1_0 l1_0.length c1_0, .slice A1_1 l1_1.length c1_1, .int .i64 a1_2] 83 (0, 0)) (by (with_reducible repeat (first | refine blk_drewN ?_ _ | refine blk_drew ?_ | refine blk_alloc ?_ _)); exact BK1393.out)) : gb1393 ≠ gb1395)); have n9_ := Aside0.mk ((by rw [hg]; exact Nat.ne_of_gt (blk_lt (g := gb1393) (o := .cells #[.slice A1_0 l1_0.length c1_0, .slice A1_1 l1_1.length c1_1, .int .i64 a1_2] 83 (0, 0)) (by (with_reducible repeat (first | refine blk_drewN ?_ _ | refine blk_drew ?_ | refine blk_alloc ?_ _)); exact BK1393.out)) : gb1395 ≠ gb1393)); clear BK1392; clear BK1393; clear HB; have BK1392 := n0_; have BK1393 := n1_; have HB := n2_; have BK1395 := n3_; have GW1395 := n4_; have GE1395 := n5_; have NB1392_1395 := n6_; have NB1395_1392 := n7_; have NB1393_1395 := n8_; have NB1395_1393 := n9_; clear n0_ n1_ n2_ n3_ n4_ n5_ n6_ n7_ n8_ n9_; clear hb hbox hg; have hnb24 := NB1395_1392.out; have hnc24 := NB1392_1395.out; have hnb25 := NB1395_1393.out; have hnc25 := NB1393_1395.out; have hcz26_0 : w23.cell? ⟨gb1395, 0, none⟩ = some (.int .i64 0) := (blk_cell BK1395.out 0).trans rfl; have hcz26_1 : w23.cell? ⟨gb1395, 1, none⟩ = some (.int .i64 0) := (blk_cell BK1395.out 1).trans rfl; have hfz26_0 := blk_frozen BK1395.out 0; have hfz26_1 := blk_frozen BK1395.out 1; have hnb27 := NB1393_1392.out; have hnc27 := NB1392_1393.out; have hcz28_0 : w23.cell? ⟨gb1393, 0, none⟩ = some (.slice A1_0 l1_0.length c1_0) := (blk_cell BK1393.out 0).trans rfl; have hcz28_1 : w23.cell? ⟨gb1393, 1, none⟩ = some (.slice A1_1 l1_1.length c1_1) := (blk_cell BK1393.out 1).trans rfl; have hcz28_2 : w23.cell? ⟨gb1393, 2, none⟩ = some (.int .i64 a1_2) := (blk_cell BK1393.out 2).trans rfl; have hfz28_0 := blk_frozen BK1393.out 0; have hfz28_1 := blk_frozen BK1393.out 1; have hfz28_2 := blk_frozen BK1393.out 2; have p1396 : 0 ≤ (x28_2 : Int) := of_decide_eq_true (by first | (with_reducible assumption) | assumption); have q1396 : x28_2 < (l1_0.length : Int) := of_decide_eq_true (by first | (with_reducible assumption) | assumption); obtain ⟨ad1396, e1396, hx1396_0, hx1396_1⟩ := at_T147 HR1_0.out x28_2 p1396 q1396; cases e1396; have hn1396_0 : ad1396.block ≠ gb1395 := Nat.ne_of_lt (Nat.lt_of_lt_of_le (by have := World.block_lt_of_cell? _ _ hx1396_0; first | rwa [add_block] at this | exact this) GW1395.out); have hn1396_1 : ad1396.block ≠ gb1395 := Nat.ne_of_lt (Nat.lt_of_lt_of_le (by have := World.block_lt_of_cell? _ _ hx1396_0; first | rwa [add_block] at this | exact this) GW1395.out); replace hx1396_0 := (HB.out.cell (World.block_lt_of_cell? w _ hx1396_0)).trans hx1396_0; replace hx1396_1 := (HB.out.cell (World.block_lt_of_cell? w _ hx1396_1)).trans hx1396_1; replace hx1396_0 := (cell_far (p := ⟨gb1395, 0, none⟩) (by first | (rw [add_block]; exact hn1396_0) | (show (Addr.add _ _).block ≠ _; rw [add_block]; exact hn1396_0) | exact hn1396_0) (.int .i64 ((rd_T147 l0_0 x28_2).f0))).trans hx1396_0; replace hx1396_1 := (cell_far (p := ⟨gb1395, 0, none⟩) (by first | (rw [add_block]; exact hn1396_0) | (show (Addr.add _ _).block ≠ _; rw [add_block]; exact hn1396_0) | exact hn1396_0) (.int .i64 ((rd_T147 l0_0 x28_2).f0))).trans hx1396_1; replace hx1396_0 := (cell_far (p := ⟨gb1395, 1, none⟩) (by first | (rw [add_block]; exact hn1396_1) | (show (Addr.add _ _).block ≠ _; rw [add_block]; exact hn1396_1) | exact hn1396_1) (.int .i64 ((rd_T147 l0_0 x28_2).f1))).trans hx1396_0; replace hx1396_1 := (cell_far (p := ⟨gb1395, 1, none⟩) (by first | (rw [add_block]; exact hn1396_1) | (show (Addr.add _ _).block ≠ _; rw [add_block]; exact hn1396_1) | exact hn1396_1) (.int .i64 ((rd_T147 l0_0 x28_2).f1))).trans hx1396_1; clear hn1396_0; clear hn1396_1; replace p1396 := eq_true p1396; replace q1396 := eq_true q1396) | ((with_reducible refine gate_dst (N := 7) rfl ?_); refine box_event ?hg (N := 7) ?hd (cs := #[.int .i64 0, .int .i64 0]) (t := 147) ?hr ?_; (case hd => rfl); (case hg => rfl); (case hr => first | (go_simp; done) | (go_simp; rfl)); intro gb1397 hg w29 hbox hb; have n0_ := Aside0.mk (blk_below (g := gb1392) (o := .cells #[.slice (some ad1394) l0_0.length c0_0, .slice A0_1 l0_1.length c0_1, .int .i64 a0_2] 83 (0, 0)) (by (with_reducible repeat (first | refine blk_drewN ?_ _ | refine blk_drew ?_ | refine blk_alloc ?_ _)); refine blk_far ?_ NB1392_1395.out _; (with_reducible repeat (first | refine blk_drewN ?_ _ | refine blk_drew ?_ | refine blk_alloc ?_ _)); refine blk_far ?_ NB1392_1395.out _; (with_reducible repeat (first | refine blk_drewN ?_ _ | refine blk_drew ?_ | refine blk_alloc ?_ _)); exact BK1392.out) hb); have n1_ := Aside0.mk (blk_below (g := gb1393) (o := .cells #[.slice (some ad1396) l1_0.length c1_0, .slice A1_1 l1_1.length c1_1, .int .i64 a1_2] 83 (0, 0)) (by (with_reducible repeat (first | refine blk_drewN ?_ _ | refine blk_drew ?_ | refine blk_alloc ?_ _)); refine blk_far ?_ NB1393_1395.out _; (with_reducible repeat (first | refine blk_drewN ?_ _ | refine blk_drew ?_ | refine blk_alloc ?_ _)); refine blk_far ?_ NB1393_1395.out _; (with_reducible repeat (first | refine blk_drewN ?_ _ | refine blk_drew ?_ | refine blk_alloc ?_ _)); exact BK1393.out) hb); have n2_ := Aside0.mk (blk_below (g := gb1395) (o := .cells #[.int .i64 ((rd_T147 l0_0 x28_2).f0), .int .i64 ((rd_T147 l0_0 x28_2).f1)] 147 (0, 0)) (by (with_reducible repeat (first | refine blk_drewN ?_ _ | refine blk_drew ?_ | refine blk_alloc ?_ _)); refine blk_put (cs := #[.int .i64 ((rd_T147 l0_0 x28_2).f0), .int .i64 0]) ?_ 1 _ rfl; (with_reducible repeat (first | refine blk_drewN ?_ _ | refine blk_drew ?_ | refine blk_alloc ?_ _)); refine blk_put (cs := #[.int .i64 0, .int .i64 0]) ?_ 0 _ rfl; (with_reducible repeat (first | refine blk_drewN ?_ _ | refine blk_drew ?_ | refine blk_alloc ?_ _)); exact BK1395.out) hb); have n3_ := Aside0.mk (below_step (by repeat (first | (with_reducible first | exact HB.out | apply below_alloc | apply pw_below_drewN | apply below_drew1 | refine below_set ?_ GE1392.out | refine below_set ?_ GE1393.out | refine below_set ?_ GE1395.out) | exact HB.out)) hb); have n4_ := Aside0.mk (hbox); have n5_ := Aside0.mk ((by rw [hg]; exact (below_size (by repeat (first | (with_reducible first | exact HB.out | apply below_alloc | apply pw_below_drewN | apply below_drew1 | refine below_set ?_ GE1392.out | refine below_set ?_ GE1393.out | refine below_set ?_ GE1395.out) | exact HB.out))) : w.heap.size ≤ gb1397)); have n6_ := Aside0.mk ((by rw [hg]; exact (below_size (by repeat (first | (with_reducible first | exact HB.out | apply below_alloc | apply pw_below_drewN | apply below_drew1 | refine below_set ?_ GE1392.out | refine below_set ?_ GE1393.out | refine below_set ?_ GE1395.out) | exact HB.out))) : w.heap.size ≤ gb1397)); have n7_ := Aside0.mk ((by rw [hg]; exact Nat.ne_of_lt (blk_lt (g := gb1392) (o := .cells #[.slice (some ad1394) l0_0.length c0_0, .slice A0_1 l0_1.length c0_1, .int .i64 a0_2] 83 (0, 0)) (by (with_reducible repeat (first | refine blk_drewN ?_ _ | refine blk_drew ?_ | refine blk_alloc ?_ _)); refine blk_far ?_ NB1392_1395.out _; (with_reducible repeat (first | refine blk_drewN ?_ _ | refine blk_drew ?_ | refine blk_alloc ?_ _)); refine blk_far ?_ NB1392_1395.out _; (with_reducible repeat (first | refine blk_drewN ?_ _ | refine blk_drew ?_ | refine blk_alloc ?_ _)); exact BK1392.out)) : gb1392 ≠ gb1397)); have n8_ := Aside0.mk ((by rw [hg]; exact Nat.ne_of_gt (blk_lt (g := gb1392) (o := .cells #[.slice (some ad1394) l0_0.length c0_0, .slice A0_1 l0_1.length c0_1, .int .i64 a0_2] 83 (0, 0)) (by (with_reducible repeat (first | refine blk_drewN ?_ _ | refine blk_drew ?_ | refine blk_alloc ?_ _)); refine blk_far ?_ NB1392_1395.out _; (with_reducible repeat (first | refine blk_drewN ?_ _ | refine blk_drew ?_ | refine blk_alloc ?_ _)); refine blk_far ?_ NB1392_1395.out _; (with_reducible repeat (first | refine blk_drewN ?_ _ | refine blk_drew ?_ | refine blk_alloc ?_ _)); exact BK1392.out)) : gb1397 ≠ gb1392)); have n9_ := Aside0.mk ((by rw [hg]; exact Nat.ne_of_lt (blk_lt (g := gb1393) (o := .cells #[.slice (some ad1396) l1_0.length c1_0, .slice A1_1 l1_1.length c1_1, .int .i64 a1_2] 83 (0, 0)) (by (with_reducible repeat (first | refine blk_drewN ?_ _ | refine blk_drew ?_ | refine blk_alloc ?_ _)); refine blk_far ?_ NB1393_1395.out _; (with_reducible repeat (first | refine blk_drewN ?_ _ | refine blk_drew ?_ | refine blk_alloc ?_ _)); refine blk_far ?_ NB1393_1395.out _; (with_reducible repeat (first | refine blk_drewN ?_ _ | refine blk_drew ?_ | refine blk_alloc ?_ _)); exact BK1393.out)) : gb1393 ≠ gb1397)); have n10_ := Aside0.mk ((by rw [hg]; exact Nat.ne_of_gt (blk_lt (g := gb1393) (o := .cells #[.slice (some ad1396) l1_0.length c1_0, .slice A1_1 l1_1.length c1_1, .int .i64 a1_2] 83 (0, 0)) (by (with_reducible repeat (first | refine blk_drewN ?_ _ | refine blk_drew ?_ | refine blk_alloc ?_ _)); refine blk_far ?_ NB1393_1395.out _; (with_reducible repeat (first | refine blk_drewN ?_ _ | refine blk_drew ?_ | refine blk_alloc ?_ _)); refine blk_far ?_ NB1393_1395.out _; (with_reducible repeat (first | refine blk_drewN ?_ _ | refine blk_drew ?_ | refine blk_alloc ?_ _)); exact BK1393.out)) : gb1397 ≠ gb1393)); have n11_ := Aside0.mk ((by rw [hg]; exact Nat.ne_of_lt (blk_lt (g := gb1395) (o := .cells #[.int .i64 ((rd_T147 l0_0 x28_2).f0), .int .i64 ((rd_T147 l0_0 x28_2).f1)] 147 (0, 0)) (by (with_reducible repeat (first | refine blk_drewN ?_ _ | refine blk_drew ?_ | refine blk_alloc ?_ _)); refine blk_put (cs := #[.int .i64 ((rd_T147 l0_0 x28_2).f0), .int .i64 0]) ?_ 1 _ rfl; (with_reducible repeat (first | refine blk_drewN ?_ _ | refine blk_drew ?_ | refine blk_alloc ?_ _)); refine blk_put (cs := #[.int .i64 0, .int .i64 0]) ?_ 0 _ rfl; (with_reducible repeat (first | refine blk_drewN ?_ _ | refine blk_drew ?_ | refine blk_alloc ?_ _)); exact BK1395.out)) : gb1395 ≠ gb1397)); have n12_ := Aside0.mk ((by rw [hg]; exact Nat.ne_of_gt (blk_lt (g := gb1395) (o := .cells #[.int .i64 ((rd_T147 l0_0 x28_2).f0), .int .i64 ((rd_T147 l0_0 x28_2).f1)] 147 (0, 0)) (by (with_reducible repeat (first | refine blk_drewN ?_ _ | refine blk_drew ?_ | refine blk_alloc ?_ _)); refine blk_put (cs := #[.int .i64 ((rd_T147 l0_0 x28_2).f0), .int .i64 0]) ?_ 1 _ rfl; (with_reducible repeat (first | refine blk_drewN ?_ _ | refine blk_drew ?_ | refine blk_alloc ?_ _)); refine blk_put (cs := #[.int .i64 0, .int .i64 0]) ?_ 0 _ rfl; (with_reducible repeat (first | refine blk_drewN ?_ _ | refine blk_drew ?_ | refine blk_alloc ?_ _)); exact BK1395.out)) : gb1397 ≠ gb1395)); clear BK1392; clear BK1393; clear BK1395; clear HB; have BK1392 := n0_; have BK1393 := n1_; have BK1395 := n2_; have HB := n3_; have BK1397 := n4_; have GW1397 := n5_; have GE1397 := n6_; have NB1392_1397 := n7_; have NB1397_1392 := n8_; have NB1393_1397 := n9_; have NB1397_1393 := n10_; have NB1395_1397 := n11_; have NB1397_1395 := n12_; clear n0_ n1_ n2_ n3_ n4_ n5_ n6_ n7_ n8_ n9_ n10_ n11_ n12_; clear hb hbox hg; have hnb30 := NB1397_1392.out; have hnc30 := NB1392_1397.out; have hnb31 := NB1397_1393.out; have hnc31 := NB1393_1397.out; have hnb32 := NB1397_1395.out; have hnc32 := NB1395_1397.out; have hcz33_0 : w29.cell? ⟨gb1397, 0, none⟩ = some (.int .i64 0) := (blk_cell BK1397.out 0).trans rfl; have hcz33_1 : w29.cell? ⟨gb1397, 1, none⟩ = some (.int .i64 0) := (blk_cell BK1397.out 1).trans rfl; have hfz33_0 := blk_frozen BK1397.out 0; have hfz33_1 := blk_frozen BK1397.out 1; have hcz34_0 : w29.cell? ⟨gb1393, 0, none⟩ = some (.slice (some ad1396) l1_0.length c1_0) := (blk_cell BK1393.out 0).trans rfl; have hcz34_1 : w29.cell? ⟨gb1393, 1, none⟩ = some (.slice A1_1 l1_1.length c1_1) := (blk_cell BK1393.out 1).trans rfl; have hcz34_2 : w29.cell? ⟨gb1393, 2, none⟩ = some (.int .i64 a1_2) := (blk_cell BK1393.out 2).trans rfl; have hfz34_0 := blk_frozen BK1393.out 0; have hfz34_1 := blk_frozen BK1393.out 1; have hfz34_2 := blk_frozen BK1393.out 2) | ((with_reducible refine gate_callee (f := 27) rfl ?_); refine goesL_ (some 42) rfl rfl Try.func27 (by kernel_rfl) rfl #[.agg #[.slice A1_1 l1_1.length c1_1], .int .i64 ((rd_T147 l1_0 x28_2).f1)] rfl (by (try simp only [List.map_toArray, List.map_cons, List.map_nil]); first | done | rfl | (simp only [List.length_drop, List.length_take]; rfl)) ?_; (with_reducible refine (impl_AllAt.calls k2 _ _ l1_1 ((rd_T147 l1_0 x28_2).f1) t1398 _ ?side1 ?side2 A20.out).mono ?_); (case side1 => exact Kd.C_below HR1_1.out (by repeat (first | (with_reducible first | exact HB.out | apply below_alloc | apply pw_below_drewN | apply below_drew1 | refine below_set ?_ GE1392.out | refine below_set ?_ GE1393.out | refine below_set ?_ GE1395.out | refine below_set ?_ GE1397.out) | exact HB.out))); (case side2 => exact HC1_1.out); rintro e w35 ⟨v1399, rfl, ho0, hb⟩; refine ⟨_, rfl, ?_⟩; have n0_ := Aside0.mk (Kd.R_lower ho0 (below_size (by repeat (first | (with_reducible first | exact HB.out | apply below_alloc | apply pw_below_drewN | apply below_drew1 | refine below_set ?_ GE1392.out | refine below_set ?_ GE1393.out | refine below_set ?_ GE1395.out | refine below_set ?_ GE1397.out) | exact HB.out)))); have n1_ := Aside0.mk (blk_below (g := gb1392) (o := .cells #[.slice (some ad1394) l0_0.length c0_0, .slice A0_1 l0_1.length c0_1, .int .i64 a0_2] 83 (0, 0)) (by (with_reducible repeat (first | refine blk_drewN ?_ _ | refine blk_drew ?_ | refine blk_alloc ?_ _)); refine blk_far ?_ NB1392_1397.out _; (with_reducible repeat (first | refine blk_drewN ?_ _ | refine blk_drew ?_ | refine blk_alloc ?_ _)); refine blk_far ?_ NB1392_1397.out _; (with_reducible repeat (first | refine blk_drewN ?_ _ | refine blk_drew ?_ | refine blk_alloc ?_ _)); exact BK1392.out) hb); have n2_ := Aside0.mk (blk_below (g := gb1393) (o := .cells #[.slice (some ad1396) l1_0.length c1_0, .slice A1_1 l1_1.length c1_1, .int .i64 a1_2] 83 (0, 0)) (by (with_reducible repeat (first | refine blk_drewN ?_ _ | refine blk_drew ?_ | refine blk_alloc ?_ _)); refine blk_far ?_ NB1393_1397.out _; (with_reducible repeat (first | refine blk_drewN ?_ _ | refine blk_drew ?_ | refine blk_alloc ?_ _)); refine blk_far ?_ NB1393_1397.out _; (with_reducible repeat (first | refine blk_drewN ?_ _ | refine blk_drew ?_ | refine blk_alloc ?_ _)); exact BK1393.out) hb); have n3_ := Aside0.mk (blk_below (g := gb1395) (o := .cells #[.int .i64 ((rd_T147 l0_0 x28_2).f0), .int .i64 ((rd_T147 l0_0 x28_2).f1)] 147 (0, 0)) (by (with_reducible repeat (first | refine blk_drewN ?_ _ | refine blk_drew ?_ | refine blk_alloc ?_ _)); refine blk_far ?_ NB1395_1397.out _; (with_reducible repeat (first | refine blk_drewN ?_ _ | refine blk_drew ?_ | refine blk_alloc ?_ _)); refine blk_far ?_ NB1395_1397.out _; (with_reducible repeat (first | refine blk_drewN ?_ _ | refine blk_drew ?_ | refine blk_alloc ?_ _)); exact BK1395.out) hb); have n4_ := Aside0.mk (blk_below (g := gb1397) (o := .cells #[.int .i64 ((rd_T147 l1_0 x28_2).f0), .int .i64 ((rd_T147 l1_0 x28_2).f1)] 147 (0, 0)) (by (with_reducible repeat (first | refine blk_drewN ?_ _ | refine blk_drew ?_ | refine blk_alloc ?_ _)); refine blk_put (cs := #[.int .i64 ((rd_T147 l1_0 x28_2).f0), .int .i64 0]) ?_ 1 _ rfl; (with_reducible repeat (first | refine blk_drewN ?_ _ | refine blk_drew ?_ | refine blk_alloc ?_ _)); refine blk_put (cs := #[.int .i64 0, .int .i64 0]) ?_ 0 _ rfl; (with_reducible repeat (first | refine blk_drewN ?_ _ | refine blk_drew ?_ | refine blk_alloc ?_ _)); exact BK1397.out) hb); have n5_ := Aside0.mk (below_step (by repeat (first | (with_reducible first | exact HB.out | apply below_alloc | apply pw_below_drewN | apply below_drew1 | refine below_set ?_ GE1392.out | refine below_set ?_ GE1393.out | refine below_set ?_ GE1395.out | refine below_set ?_ GE1397.out) | exact HB.out)) hb); clear BK1392; clear BK1393; clear BK1395; clear BK1397; clear HB; have HO1400 := n0_; have BK1392 := n1_; have BK1393 := n2_; have BK1395 := n3_; have BK1397 := n4_; have HB := n5_; clear n0_ n1_ n2_ n3_ n4_ n5_; (try clear hb); (try clear hb2); (try clear hk); (try clear hi); (try clear ho0); have hcz36_0 : w35.cell? ⟨gb1395, 0, none⟩ = some (.int .i64 ((rd_T147 l0_0 x28_2).f0)) := (blk_cell BK1395.out 0).trans rfl; have hcz36_1 : w35.cell? ⟨gb1395, 1, none⟩ = some (.int .i64 ((rd_T147 l0_0 x28_2).f1)) := (blk_cell BK1395.out 1).trans rfl; have hfz36_0 := blk_frozen BK1395.out 0; have hfz36_1 := blk_frozen BK1395.out 1; have hcz37_0 : w35.cell? ⟨gb1397, 0, none⟩ = some (.int .i64 ((rd_T147 l1_0 x28_2).f0)) := (blk_cell BK1397.out 0).trans rfl; have hcz37_1 : w35.cell? ⟨gb1397, 1, none⟩ = some (.int .i64 ((rd_T147 l1_0 x28_2).f1)) := (blk_cell BK1397.out 1).trans rfl; have hfz37_0 := blk_frozen BK1397.out 0; have hfz37_1 := blk_frozen BK1397.out 1; have hcz38_0 : w35.cell? ⟨gb1392, 0, none⟩ = some (.slice (some ad1394) l0_0.length c0_0) := (blk_cell BK1392.out 0).trans rfl; have hcz38_1 : w35.cell? ⟨gb1392, 1, none⟩ = some (.slice A0_1 l0_1.length c0_1) := (blk_cell BK1392.out 1).trans rfl; have hcz38_2 : w35.cell? ⟨gb1392, 2, none⟩ = some (.int .i64 a0_2) := (blk_cell BK1392.out 2).trans rfl; have hfz38_0 := blk_frozen BK1392.out 0; have hfz38_1 := blk_frozen BK1392.out 1; have hfz38_2 := blk_frozen BK1392.out 2) | ((with_reducible refine gate_callee (f := 27) rfl ?_); refine goesL_ (some 52) rfl rfl Try.func27 (by kernel_rfl) rfl #[.agg #[.slice A0_1 l0_1.length c0_1], .int .i64 ((rd_T147 l0_0 x28_2).f1)] rfl (by (try simp only [List.map_toArray, List.map_cons, List.map_nil]); first | done | rfl | (simp only [List.length_drop, List.length_take]; rfl)) ?_; (with_reducible refine (impl_AllAt.calls k2 _ _ l0_1 ((rd_T147 l0_0 x28_2).f1) t1401 _ ?side1 ?side2 A22.out).mono ?_); (case side1 => repeat (first | exact (Kd.C_below HR0_1.out HB.out) | (with_reducible refine Kd.C_alloc ?_ _) | (with_reducible refine Kd.C_drewN ?_ _) | (with_reducible refine Kd.C_drew ?_))); (case side2 => exact HC0_1.out); rintro e w39 ⟨v1402, rfl, ho0, hb⟩; refine ⟨_, rfl, ?_⟩; have n0_ := Aside0.mk (Kd.R_elder' (by (with_reducible repeat (first | apply Kd.R_alloc | apply Kd.R_drewN | apply Kd.R_drew)); exact HO1400.out) (Kd.R_base ho0) hb); have n1_ := Aside0.mk (Kd.R_lower (Kd.R_new' ho0 (Kd.R_lt (by (with_reducible repeat (first | apply Kd.R_alloc | apply Kd.R_drewN | apply Kd.R_drew)); exact HO1400.out))) (below_size (by repeat (first | (with_reducible first | exact HB.out | apply below_alloc | apply pw_below_drewN | apply below_drew1 | refine below_set ?_ GE1392.out | refine below_set ?_ GE1393.out | refine below_set ?_ GE1395.out | refine below_set ?_ GE1397.out) | exact HB.out)))); have n2_ := Aside0.mk (blk_below (g := gb1392) (o := .cells #[.slice (some ad1394) l0_0.length c0_0, .slice A0_1 l0_1.length c0_1, .int .i64 a0_2] 83 (0, 0)) (by (with_reducible repeat (first | refine blk_drewN ?_ _ | refine blk_drew ?_ | refine blk_alloc ?_ _)); exact BK1392.out) hb); have n3_ := Aside0.mk (blk_below (g := gb1393) (o := .cells #[.slice (some ad1396) l1_0.length c1_0, .slice A1_1 l1_1.length c1_1, .int .i64 a1_2] 83 (0, 0)) (by (with_reducible repeat (first | refine blk_drewN ?_ _ | refine blk_drew ?_ | refine blk_alloc ?_ _)); exact BK1393.out) hb); have n4_ := Aside0.mk (blk_below (g := gb1395) (o := .cells #[.int .i64 ((rd_T147 l0_0 x28_2).f0), .int .i64 ((rd_T147 l0_0 x28_2).f1)] 147 (0, 0)) (by (with_reducible repeat (first | refine blk_drewN ?_ _ | refine blk_drew ?_ | refine blk_alloc ?_ _)); exact BK1395.out) hb); have n5_ := Aside0.mk (blk_below (g := gb1397) (o := .cells #[.int .i64 ((rd_T147 l1_0 x28_2).f0), .int .i64 ((rd_T147 l1_0 x28_2).f1)] 147 (0, 0)) (by (with_reducible repeat (first | refine blk_drewN ?_ _ | refine blk_drew ?_ | refine blk_alloc ?_ _)); exact BK1397.out) hb); have n6_ := Aside0.mk (below_step (by repeat (first | (with_reducible first | exact HB.out | apply below_alloc | apply pw_below_drewN | apply below_drew1 | refine below_set ?_ GE1392.out | refine below_set ?_ GE1393.out | refine below_set ?_ GE1395.out | refine below_set ?_ GE1397.out) | exact HB.out)) hb); clear HO1400; clear BK1392; clear BK1393; clear BK1395; clear BK1397; clear HB; have HO1400 := n0_; have HO1403 := n1_; have BK1392 := n2_; have BK1393 := n3_; have BK1395 := n4_; have BK1397 := n5_; have HB := n6_; clear n0_ n1_ n2_ n3_ n4_ n5_ n6_; (try clear hb); (try clear hb2); (try clear hk); (try clear hi); (try clear ho0); obtain ⟨Ao40, co40, eo40⟩ := Kd.R_slice HO1403.out; subst eo40))
                      go_loopg [54] k2 (fun kq v54 w' => ∃ (x54_3 : Int), v54 = .int .i64 x54_3 ∧ Aside0 (impl_SameStore.l1 kq t1398 l0_0 (l0_0.length : Int) x28_2 t1401 (t1401.length : Int) x54_3 l0_0 l0_1 a0_2 l1_0 l1_1 a1_2 = some r) ∧ Aside0 (kq ≤ k2) ∧ Aside0 (Kd.R (Kd.int .i64) 3 w' w.heap.size (fun k_ => some k_ ≠ ((.slice Ao40 t1401.length co40) : Value).ownBlock) v1399 t1398) ∧ Aside0 (Kd.R (Kd.int .i64) 3 w' w.heap.size (fun k_ => some k_ ≠ (v1399 : Value).ownBlock) (.slice Ao40 t1401.length co40) t1401) ∧ Aside0 (w'.heap[gb1392]? = some (.cells #[(.slice (some ad1394) l0_0.length c0_0), (.slice A0_1 l0_1.length c0_1), .int .i64 a0_2] 83 (0, 0))) ∧ Aside0 (w'.heap[gb1393]? = some (.cells #[(.slice (some ad1396) l1_0.length c1_0), (.slice A1_1 l1_1.length c1_1), .int .i64 a1_2] 83 (0, 0))) ∧ Aside0 (w'.heap[gb1395]? = some (.cells #[.int .i64 ((rd_T147 l0_0 x28_2).f0), .int .i64 ((rd_T147 l0_0 x28_2).f1)] 147 (0, 0))) ∧ Aside0 (w'.heap[gb1397]? = some (.cells #[.int .i64 ((rd_T147 l1_0 x28_2).f0), .int .i64 ((rd_T147 l1_0 x28_2).f1)] 147 (0, 0))) ∧ Aside0 (Below w.heap.size w w'))
                      case atStart => exact ⟨(0), (by first | rfl | (simp; done) | (simp [*]; done)), H', ⟨Nat.le_refl _⟩, ⟨by (with_reducible repeat (first | apply Kd.R_alloc | apply Kd.R_drewN | apply Kd.R_drew)); exact Kd.R_mono HO1400.out (fun _ hk => hk.2)⟩, ⟨by (with_reducible repeat (first | apply Kd.R_alloc | apply Kd.R_drewN | apply Kd.R_drew)); exact Kd.R_mono HO1403.out (fun _ hk => hk.2)⟩, ⟨by (with_reducible repeat (first | refine blk_drewN ?_ _ | refine blk_drew ?_ | refine blk_alloc ?_ _)); exact BK1392.out⟩, ⟨by (with_reducible repeat (first | refine blk_drewN ?_ _ | refine blk_drew ?_ | refine blk_alloc ?_ _)); exact BK1393.out⟩, ⟨by (with_reducible repeat (first | refine blk_drewN ?_ _ | refine blk_drew ?_ | refine blk_alloc ?_ _)); exact BK1395.out⟩, ⟨by (with_reducible repeat (first | refine blk_drewN ?_ _ | refine blk_drew ?_ | refine blk_alloc ?_ _)); exact BK1397.out⟩, ⟨by repeat (first | (with_reducible first | exact HB.out | apply below_alloc | apply pw_below_drewN | apply below_drew1 | refine below_set ?_ GE1392.out | refine below_set ?_ GE1393.out | refine below_set ?_ GE1395.out | refine below_set ?_ GE1397.out) | exact HB.out)⟩⟩
                      case round =>
                        clear H'
                        try clear c1
                        try clear p1
                        try clear q1
                        try clear hx1
                        try clear c2
                        try clear p2
                        try clear c3
                        try clear c6
                        try clear c6b0
                        try clear c6b1
                        try clear c6b2
                        try clear c7
                        try clear c10
                        try clear c13
                        try clear p13
                        try clear q13
                        try clear hx13
                        try clear c14
                        try clear c16
                        try clear c16b0
                        try clear c17
                        try clear c17b0
                        try clear c18
                        try clear c18b0
                        try clear c19
                        try clear c19b0
                        try clear c21
                        try clear c21b0
                        try clear c21b1
                        try clear c24
                        try clear c25
                        try clear c27
                        try clear c30
                        try clear c31
                        try clear c32
                        try clear hcz11_0
                        try clear hcz11_1
                        try clear hcz11_2
                        try clear hcz12_0
                        try clear hcz12_1
                        try clear hcz12_2
                        try clear hcz15_0
                        try clear hcz15_1
                        try clear hcz15_2
                        try clear hcz26_0
                        try clear hcz26_1
                        try clear hcz28_0
                        try clear hcz28_1
                        try clear hcz28_2
                        try clear hcz33_0
                        try clear hcz33_1
                        try clear hcz34_0
                        try clear hcz34_1
                        try clear hcz34_2
                        try clear hcz36_0
                        try clear hcz36_1
                        try clear hcz37_0
                        try clear hcz37_1
                        try clear hcz38_0
                        try clear hcz38_1
                        try clear hcz38_2
                        try clear hcz8_0
                        try clear hcz8_1
                        try clear hcz8_2
                        try clear hcz9_0
                        try clear hcz9_1
                        try clear hcz9_2
                        try clear hfz11_0
                        try clear hfz11_1
                        try clear hfz11_2
                        try clear hfz12_0
                        try clear hfz12_1
                        try clear hfz12_2
                        try clear hfz15_0
                        try clear hfz15_1
                        try clear hfz15_2
                        try clear hfz26_0
                        try clear hfz26_1
                        try clear hfz28_0
                        try clear hfz28_1
                        try clear hfz28_2
                        try clear hfz33_0
                        try clear hfz33_1
                        try clear hfz34_0
                        try clear hfz34_1
                        try clear hfz34_2
                        try clear hfz36_0
                        try clear hfz36_1
                        try clear hfz37_0
                        try clear hfz37_1
                        try clear hfz38_0
                        try clear hfz38_1
                        try clear hfz38_2
                        try clear hfz8_0
                        try clear hfz8_1
                        try clear hfz8_2
                        try clear hfz9_0
                        try clear hfz9_1
                        try clear hfz9_2
                        try clear hx1394_0
                        try clear hx1394_1
                        try clear hx1396_0
                        try clear hx1396_1
                        try clear p1394
                        try clear p1396
                        try clear p2
                        try clear q1394
                        try clear q1396
                        obtain ⟨x54_3, rfl, HA, HK3, HO_8, HO_52, BK1392, BK1393, BK1395, BK1397, HB⟩ := hrel
                        cases gk with
                        | zero => exact absurd HA.out (by simp [impl_SameStore.l1])
                        | succ k3 =>
                          have H := HA.out
                          clear HA
                          simp only [impl_SameStore.l1] at H
                          by_cases c41 : x54_3 < (t1401.length : Int)
                          · rw [if_pos c41] at H
                            have c41b0 : decide (x54_3 < (t1401.length : Int)) = true := decide_eq_true c41
                            clear c41
                            by_cases c42 : 0 ≤ x54_3
                            · rw [if_pos c42] at H
                              have c42b0 : decide (0 ≤ x54_3) = true := decide_eq_true c42
                              clear c42
                              by_cases c43 : x54_3 < (t1401.length : Int)
                              · rw [if_pos c43] at H
                                have c43b0 : decide (x54_3 < (t1401.length : Int)) = true := decide_eq_true c43
                                clear c43
                                by_cases c44 : x54_3 < (t1398.length : Int)
                                · rw [if_pos c44] at H
                                  have c44b0 : decide (x54_3 < (t1398.length : Int)) = true := decide_eq_true c44
                                  clear c44
                                  by_cases c45 : (rd t1401 x54_3) = (rd t1398 x54_3)
                                  · rw [if_pos c45] at H
                                    have c45b0 : ((rd t1401 x54_3) == (rd t1398 x54_3)) = true := beq_iff_eq.mpr c45
                                    have c45b1 : ((rd t1401 x54_3) != (rd t1398 x54_3)) = false := bne_eq_false_iff_eq.mpr c45
                                    clear c45
                                    have H' := Aside0.mk H
                                    clear H
                                    have p1404 : 0 ≤ (x54_3 : Int) := of_decide_eq_true (by first | (with_reducible assumption) | assumption)
                                    have q1404 : x54_3 < (t1401.length : Int) := of_decide_eq_true (by first | (with_reducible assumption) | assumption)
                                    obtain ⟨ad1404, e1404, hx1404_0⟩ := Kd.at_int (Kd.R_reads' HO_52.out).2.2 x54_3 p1404 q1404
                                    cases e1404
                                    replace p1404 := eq_true p1404
                                    replace q1404 := eq_true q1404
                                    obtain ⟨Ao46, co46, eo46⟩ := Kd.R_slice HO_8.out
                                    subst eo46
                                    have p1405 : 0 ≤ (x54_3 : Int) := of_decide_eq_true (by first | (with_reducible assumption) | assumption)
                                    have q1405 : x54_3 < (t1398.length : Int) := of_decide_eq_true (by first | (with_reducible assumption) | assumption)
                                    obtain ⟨ad1405, e1405, hx1405_0⟩ := Kd.at_int (Kd.R_reads' HO_8.out).2.2 x54_3 p1405 q1405
                                    cases e1405
                                    replace p1405 := eq_true p1405
                                    replace q1405 := eq_true q1405
                                    go_wp2
                                    go_roundg k3
                                    case measure => have := HJ2.out; have := HK2.out; have := HK3.out; omega
                                    case rel => exact ⟨(wrap64 (x54_3 + 1)), (by first | rfl | (simp; done) | (simp [*]; done)), H', ⟨by have := HJ2.out; have := HK2.out; have := HK3.out; omega⟩, ⟨by (with_reducible repeat (first | apply Kd.R_alloc | apply Kd.R_drewN | apply Kd.R_drew)); exact HO_8.out⟩, ⟨by (with_reducible repeat (first | apply Kd.R_alloc | apply Kd.R_drewN | apply Kd.R_drew)); exact HO_52.out⟩, ⟨by (with_reducible repeat (first | refine blk_drewN ?_ _ | refine blk_drew ?_ | refine blk_alloc ?_ _)); exact BK1392.out⟩, ⟨by (with_reducible repeat (first | refine blk_drewN ?_ _ | refine blk_drew ?_ | refine blk_alloc ?_ _)); exact BK1393.out⟩, ⟨by (with_reducible repeat (first | refine blk_drewN ?_ _ | refine blk_drew ?_ | refine blk_alloc ?_ _)); exact BK1395.out⟩, ⟨by (with_reducible repeat (first | refine blk_drewN ?_ _ | refine blk_drew ?_ | refine blk_alloc ?_ _)); exact BK1397.out⟩, ⟨by repeat (first | (with_reducible first | exact HB.out | apply below_alloc | apply pw_below_drewN | apply below_drew1 | refine below_set ?_ GE1392.out | refine below_set ?_ GE1393.out | refine below_set ?_ GE1395.out | refine below_set ?_ GE1397.out) | exact HB.out)⟩⟩
                                  · rw [if_neg c45] at H
                                    have c45b0 : ((rd t1401 x54_3) == (rd t1398 x54_3)) = false := beq_eq_false_iff_ne.mpr c45
                                    have c45b1 : ((rd t1401 x54_3) != (rd t1398 x54_3)) = true := bne_iff_ne.mpr c45
                                    obtain rfl := Option.some.inj H
                                    have p1404 : 0 ≤ (x54_3 : Int) := of_decide_eq_true (by first | (with_reducible assumption) | assumption)
                                    have q1404 : x54_3 < (t1401.length : Int) := of_decide_eq_true (by first | (with_reducible assumption) | assumption)
                                    obtain ⟨ad1404, e1404, hx1404_0⟩ := Kd.at_int (Kd.R_reads' HO_52.out).2.2 x54_3 p1404 q1404
                                    cases e1404
                                    replace p1404 := eq_true p1404
                                    replace q1404 := eq_true q1404
                                    obtain ⟨Ao47, co47, eo47⟩ := Kd.R_slice HO_8.out
                                    subst eo47
                                    have p1405 : 0 ≤ (x54_3 : Int) := of_decide_eq_true (by first | (with_reducible assumption) | assumption)
                                    have q1405 : x54_3 < (t1398.length : Int) := of_decide_eq_true (by first | (with_reducible assumption) | assumption)
                                    obtain ⟨ad1405, e1405, hx1405_0⟩ := Kd.at_int (Kd.R_reads' HO_8.out).2.2 x54_3 p1405 q1405
                                    cases e1405
                                    replace p1405 := eq_true p1405
                                    replace q1405 := eq_true q1405
                                    go_wp2
                                    go_ret
                                    exact ⟨by first | rfl | (simp [errW_none, errW_some] <;> rfl) | (simp [*, errW_none, errW_some] <;> rfl), by repeat (first | (with_reducible first | exact HB.out | apply below_alloc | apply pw_below_drewN | apply below_drew1 | refine below_set ?_ GE1392.out | refine below_set ?_ GE1393.out | refine below_set ?_ GE1395.out | refine below_set ?_ GE1397.out) | exact HB.out)⟩
                                · rw [if_neg c44] at H
                                  exact absurd H (by simp)
                              · rw [if_neg c43] at H
                                exact absurd H (by simp)
                            · rw [if_neg c42] at H
                              exact absurd H (by simp)
                          · rw [if_neg c41] at H
                            have c41b0 : decide (x54_3 < (t1401.length : Int)) = false := decide_eq_false c41
                            clear c41
                            have H' := Aside0.mk H
                            clear H
                            go_wp2
                            go_roundg k3
                            case measure => have := HJ2.out; have := HK2.out; have := HK3.out; omega
                            case rel => exact ⟨(wrap64 (x28_2 + 1)), (by first | rfl | (simp; done) | (simp [*]; done)), H', ⟨by have := HJ2.out; have := HK2.out; have := HK3.out; omega⟩, ⟨by (with_reducible repeat (first | refine blk_drewN ?_ _ | refine blk_drew ?_ | refine blk_alloc ?_ _)); exact BK1392.out⟩, ⟨by (with_reducible repeat (first | refine blk_drewN ?_ _ | refine blk_drew ?_ | refine blk_alloc ?_ _)); exact BK1393.out⟩, ⟨by repeat (first | (with_reducible first | exact HB.out | apply below_alloc | apply pw_below_drewN | apply below_drew1 | refine below_set ?_ GE1392.out | refine below_set ?_ GE1393.out | refine below_set ?_ GE1395.out | refine below_set ?_ GE1397.out) | exact HB.out)⟩⟩
                    · rw [if_neg c21] at H
                      have c21b0 : (((rd_T147 l0_0 x28_2).f0) == ((rd_T147 l1_0 x28_2).f0)) = false := beq_eq_false_iff_ne.mpr c21
                      have c21b1 : (((rd_T147 l0_0 x28_2).f0) != ((rd_T147 l1_0 x28_2).f0)) = true := bne_iff_ne.mpr c21
                      obtain rfl := Option.some.inj H
                      have p1394 : 0 ≤ (x28_2 : Int) := of_decide_eq_true (by first | (with_reducible assumption) | assumption)
                      have q1394 : x28_2 < (l0_0.length : Int) := of_decide_eq_true (by first | (with_reducible assumption) | assumption)
                      obtain ⟨ad1394, e1394, hx1394_0, hx1394_1⟩ := at_T147 HR0_0.out x28_2 p1394 q1394
                      cases e1394
                      replace hx1394_0 := (HB.out.cell (World.block_lt_of_cell? w _ hx1394_0)).trans hx1394_0
                      replace hx1394_1 := (HB.out.cell (World.block_lt_of_cell? w _ hx1394_1)).trans hx1394_1
                      replace p1394 := eq_true p1394
                      replace q1394 := eq_true q1394
                      go_wp2_with (first | ((with_reducible refine gate_dst (N := 6) rfl ?_); refine box_event ?hg (N := 6) ?hd (cs := #[.int .i64 0, .int .i64 0]) (t := 147) ?hr ?_; (case hd => rfl); (case hg => rfl); (case hr => first | (go_simp; done) | (go_simp; rfl)); intro gb1395 hg w48 hbox hb; have n0_ := Aside0.mk (blk_below (g := gb1392) (o := .cells #[.slice (some ad1394) l0_0.length c0_0, .slice A0_1 l0_1.length c0_1, .int .i64 a0_2] 83 (0, 0)) (by (with_reducible repeat (first | refine blk_drewN ?_ _ | refine blk_drew ?_ | refine blk_alloc ?_ _)); exact BK1392.out) hb); have n1_ := Aside0.mk (blk_below (g := gb1393) (o := .cells #[.slice A1_0 l1_0.length c1_0, .slice A1_1 l1_1.length c1_1, .int .i64 a1_2] 83 (0, 0)) (by (with_reducible repeat (first | refine blk_drewN ?_ _ | refine blk_drew ?_ | refine blk_alloc ?_ _)); exact BK1393.out) hb); have n2_ := Aside0.mk (below_step (by repeat (first | (with_reducible first | exact HB.out | apply below_alloc | apply pw_below_drewN | apply below_drew1 | refine below_set ?_ GE1392.out | refine below_set ?_ GE1393.out) | exact HB.out)) hb); have n3_ := Aside0.mk (hbox); have n4_ := Aside0.mk ((by rw [hg]; exact (below_size (by repeat (first | (with_reducible first | exact HB.out | apply below_alloc | apply pw_below_drewN | apply below_drew1 | refine below_set ?_ GE1392.out | refine below_set ?_ GE1393.out) | exact HB.out))) : w.heap.size ≤ gb1395)); have n5_ := Aside0.mk ((by rw [hg]; exact (below_size (by repeat (first | (with_reducible first | exact HB.out | apply below_alloc | apply pw_below_drewN | apply below_drew1 | refine below_set ?_ GE1392.out | refine below_set ?_ GE1393.out) | exact HB.out))) : w.heap.size ≤ gb1395)); have n6_ := Aside0.mk ((by rw [hg]; exact Nat.ne_of_lt (blk_lt (g := gb1392) (o := .cells #[.slice (some ad1394) l0_0.length c0_0, .slice A0_1 l0_1.length c0_1, .int .i64 a0_2] 83 (0, 0)) (by (with_reducible repeat (first | refine blk_drewN ?_ _ | refine blk_drew ?_ | refine blk_alloc ?_ _)); exact BK1392.out)) : gb1392 ≠ gb1395)); have n7_ := Aside0.mk ((by rw [hg]; exact Nat.ne_of_gt (blk_lt (g := gb1392) (o := .cells #[.slice (some ad1394) l0_0.length c0_0, .slice A0_1 l0_1.length c0_1, .int .i64 a0_2] 83 (0, 0)) (by (with_reducible repeat (first | refine blk_drewN ?_ _ | refine blk_drew ?_ | refine blk_alloc ?_ _)); exact BK1392.out)) : gb1395 ≠ gb1392)); have n8_ := Aside0.mk ((by rw [hg]; exact Nat.ne_of_lt (blk_lt (g := gb1393) (o := .cells #[.slice A1_0 l1_0.length c1_0, .slice A1_1 l1_1.length c1_1, .int .i64 a1_2] 83 (0, 0)) (by (with_reducible repeat (first | refine blk_drewN ?_ _ | refine blk_drew ?_ | refine blk_alloc ?_ _)); exact BK1393.out)) : gb1393 ≠ gb1395)); have n9_ := Aside0.mk ((by rw [hg]; exact Nat.ne_of_gt (blk_lt (g := gb1393) (o := .cells #[.slice A1_0 l1_0.length c1_0, .slice A1_1 l1_1.length c1_1, .int .i64 a1_2] 83 (0, 0)) (by (with_reducible repeat (first | refine blk_drewN ?_ _ | refine blk_drew ?_ | refine blk_alloc ?_ _)); exact BK1393.out)) : gb1395 ≠ gb1393)); clear BK1392; clear BK1393; clear HB; have BK1392 := n0_; have BK1393 := n1_; have HB := n2_; have BK1395 := n3_; have GW1395 := n4_; have GE1395 := n5_; have NB1392_1395 := n6_; have NB1395_1392 := n7_; have NB1393_1395 := n8_; have NB1395_1393 := n9_; clear n0_ n1_ n2_ n3_ n4_ n5_ n6_ n7_ n8_ n9_; clear hb hbox hg; have hnb49 := NB1395_1392.out; have hnc49 := NB1392_1395.out; have hnb50 := NB1395_1393.out; have hnc50 := NB1393_1395.out; have hcz51_0 : w48.cell? ⟨gb1395, 0, none⟩ = some (.int .i64 0) := (blk_cell BK1395.out 0).trans rfl; have hcz51_1 : w48.cell? ⟨gb1395, 1, none⟩ = some (.int .i64 0) := (blk_cell BK1395.out 1).trans rfl; have hfz51_0 := blk_frozen BK1395.out 0; have hfz51_1 := blk_frozen BK1395.out 1; have hnb52 := NB1393_1392.out; have hnc52 := NB1392_1393.out; have hcz53_0 : w48.cell? ⟨gb1393, 0, none⟩ = some (.slice A1_0 l1_0.length c1_0) := (blk_cell BK1393.out 0).trans rfl; have hcz53_1 : w48.cell? ⟨gb1393, 1, none⟩ = some (.slice A1_1 l1_1.length c1_1) := (blk_cell BK1393.out 1).trans rfl; have hcz53_2 : w48.cell? ⟨gb1393, 2, none⟩ = some (.int .i64 a1_2) := (blk_cell BK1393.out 2).trans rfl; have hfz53_0 := blk_frozen BK1393.out 0; have hfz53_1 := blk_frozen BK1393.out 1; have hfz53_2 := blk_frozen BK1393.out 2; have p1396 : 0 ≤ (x28_2 : Int) := of_decide_eq_true (by first | (with_reducible assumption) | assumption); have q1396 : x28_2 < (l1_0.length : Int) := of_decide_eq_true (by first | (with_reducible assumption) | assumption); obtain ⟨ad1396, e1396, hx1396_0, hx1396_1⟩ := at_T147 HR1_0.out x28_2 p1396 q1396; cases e1396; have hn1396_0 : ad1396.block ≠ gb1395 := Nat.ne_of_lt (Nat.lt_of_lt_of_le (by have := World.block_lt_of_cell? _ _ hx1396_0; first | rwa [add_block] at this | exact this) GW1395.out); have hn1396_1 : ad1396.block ≠ gb1395 := Nat.ne_of_lt (Nat.lt_of_lt_of_le (by have := World.block_lt_of_cell? _ _ hx1396_0; first | rwa [add_block] at this | exact this) GW1395.out); replace hx1396_0 := (HB.out.cell (World.block_lt_of_cell? w _ hx1396_0)).trans hx1396_0; replace hx1396_1 := (HB.out.cell (World.block_lt_of_cell? w _ hx1396_1)).trans hx1396_1; replace hx1396_0 := (cell_far (p := ⟨gb1395, 0, none⟩) (by first | (rw [add_block]; exact hn1396_0) | (show (Addr.add _ _).block ≠ _; rw [add_block]; exact hn1396_0) | exact hn1396_0) (.int .i64 ((rd_T147 l0_0 x28_2).f0))).trans hx1396_0; replace hx1396_1 := (cell_far (p := ⟨gb1395, 0, none⟩) (by first | (rw [add_block]; exact hn1396_0) | (show (Addr.add _ _).block ≠ _; rw [add_block]; exact hn1396_0) | exact hn1396_0) (.int .i64 ((rd_T147 l0_0 x28_2).f0))).trans hx1396_1; replace hx1396_0 := (cell_far (p := ⟨gb1395, 1, none⟩) (by first | (rw [add_block]; exact hn1396_1) | (show (Addr.add _ _).block ≠ _; rw [add_block]; exact hn1396_1) | exact hn1396_1) (.int .i64 ((rd_T147 l0_0 x28_2).f1))).trans hx1396_0; replace hx1396_1 := (cell_far (p := ⟨gb1395, 1, none⟩) (by first | (rw [add_block]; exact hn1396_1) | (show (Addr.add _ _).block ≠ _; rw [add_block]; exact hn1396_1) | exact hn1396_1) (.int .i64 ((rd_T147 l0_0 x28_2).f1))).trans hx1396_1; clear hn1396_0; clear hn1396_1; replace p1396 := eq_true p1396; replace q1396 := eq_true q1396) | ((with_reducible refine gate_dst (N := 7) rfl ?_); refine box_event ?hg (N := 7) ?hd (cs := #[.int .i64 0, .int .i64 0]) (t := 147) ?hr ?_; (case hd => rfl); (case hg => rfl); (case hr => first | (go_simp; done) | (go_simp; rfl)); intro gb1397 hg w54 hbox hb; have n0_ := Aside0.mk (blk_below (g := gb1392) (o := .cells #[.slice (some ad1394) l0_0.length c0_0, .slice A0_1 l0_1.length c0_1, .int .i64 a0_2] 83 (0, 0)) (by (with_reducible repeat (first | refine blk_drewN ?_ _ | refine blk_drew ?_ | refine blk_alloc ?_ _)); refine blk_far ?_ NB1392_1395.out _; (with_reducible repeat (first | refine blk_drewN ?_ _ | refine blk_drew ?_ | refine blk_alloc ?_ _)); refine blk_far ?_ NB1392_1395.out _; (with_reducible repeat (first | refine blk_drewN ?_ _ | refine blk_drew ?_ | refine blk_alloc ?_ _)); exact BK1392.out) hb); have n1_ := Aside0.mk (blk_below (g := gb1393) (o := .cells #[.slice (some ad1396) l1_0.length c1_0, .slice A1_1 l1_1.length c1_1, .int .i64 a1_2] 83 (0, 0)) (by (with_reducible repeat (first | refine blk_drewN ?_ _ | refine blk_drew ?_ | refine blk_alloc ?_ _)); refine blk_far ?_ NB1393_1395.out _; (with_reducible repeat (first | refine blk_drewN ?_ _ | refine blk_drew ?_ | refine blk_alloc ?_ _)); refine blk_far ?_ NB1393_1395.out _; (with_reducible repeat (first | refine blk_drewN ?_ _ | refine blk_drew ?_ | refine blk_alloc ?_ _)); exact BK1393.out) hb); have n2_ := Aside0.mk (blk_below (g := gb1395) (o := .cells #[.int .i64 ((rd_T147 l0_0 x28_2).f0), .int .i64 ((rd_T147 l0_0 x28_2).f1)] 147 (0, 0)) (by (with_reducible repeat (first | refine blk_drewN ?_ _ | refine blk_drew ?_ | refine blk_alloc ?_ _)); refine blk_put (cs := #[.int .i64 ((rd_T147 l0_0 x28_2).f0), .int .i64 0]) ?_ 1 _ rfl; (with_reducible repeat (first | refine blk_drewN ?_ _ | refine blk_drew ?_ | refine blk_alloc ?_ _)); refine blk_put (cs := #[.int .i64 0, .int .i64 0]) ?_ 0 _ rfl; (with_reducible repeat (first | refine blk_drewN ?_ _ | refine blk_drew ?_ | refine blk_alloc ?_ _)); exact BK1395.out) hb); have n3_ := Aside0.mk (below_step (by repeat (first | (with_reducible first | exact HB.out | apply below_alloc | apply pw_below_drewN | apply below_drew1 | refine below_set ?_ GE1392.out | refine below_set ?_ GE1393.out | refine below_set ?_ GE1395.out) | exact HB.out)) hb); have n4_ := Aside0.mk (hbox); have n5_ := Aside0.mk ((by rw [hg]; exact (below_size (by repeat (first | (with_reducible first | exact HB.out | apply below_alloc | apply pw_below_drewN | apply below_drew1 | refine below_set ?_ GE1392.out | refine below_set ?_ GE1393.out | refine below_set ?_ GE1395.out) | exact HB.out))) : w.heap.size ≤ gb1397)); have n6_ := Aside0.mk ((by rw [hg]; exact (below_size (by repeat (first | (with_reducible first | exact HB.out | apply below_alloc | apply pw_below_drewN | apply below_drew1 | refine below_set ?_ GE1392.out | refine below_set ?_ GE1393.out | refine below_set ?_ GE1395.out) | exact HB.out))) : w.heap.size ≤ gb1397)); have n7_ := Aside0.mk ((by rw [hg]; exact Nat.ne_of_lt (blk_lt (g := gb1392) (o := .cells #[.slice (some ad1394) l0_0.length c0_0, .slice A0_1 l0_1.length c0_1, .int .i64 a0_2] 83 (0, 0)) (by (with_reducible repeat (first | refine blk_drewN ?_ _ | refine blk_drew ?_ | refine blk_alloc ?_ _)); refine blk_far ?_ NB1392_1395.out _; (with_reducible repeat (first | refine blk_drewN ?_ _ | refine blk_drew ?_ | refine blk_alloc ?_ _)); refine blk_far ?_ NB1392_1395.out _; (with_reducible repeat (first | refine blk_drewN ?_ _ | refine blk_drew ?_ | refine blk_alloc ?_ _)); exact BK1392.out)) : gb1392 ≠ gb1397)); have n8_ := Aside0.mk ((by rw [hg]; exact Nat.ne_of_gt (blk_lt (g := gb1392) (o := .cells #[.slice (some ad1394) l0_0.length c0_0, .slice A0_1 l0_1.length c0_1, .int .i64 a0_2] 83 (0, 0)) (by (with_reducible repeat (first | refine blk_drewN ?_ _ | refine blk_drew ?_ | refine blk_alloc ?_ _)); refine blk_far ?_ NB1392_1395.out _; (with_reducible repeat (first | refine blk_drewN ?_ _ | refine blk_drew ?_ | refine blk_alloc ?_ _)); refine blk_far ?_ NB1392_1395.out _; (with_reducible repeat (first | refine blk_drewN ?_ _ | refine blk_drew ?_ | refine blk_alloc ?_ _)); exact BK1392.out)) : gb1397 ≠ gb1392)); have n9_ := Aside0.mk ((by rw [hg]; exact Nat.ne_of_lt (blk_lt (g := gb1393) (o := .cells #[.slice (some ad1396) l1_0.length c1_0, .slice A1_1 l1_1.length c1_1, .int .i64 a1_2] 83 (0, 0)) (by (with_reducible repeat (first | refine blk_drewN ?_ _ | refine blk_drew ?_ | refine blk_alloc ?_ _)); refine blk_far ?_ NB1393_1395.out _; (with_reducible repeat (first | refine blk_drewN ?_ _ | refine blk_drew ?_ | refine blk_alloc ?_ _)); refine blk_far ?_ NB1393_1395.out _; (with_reducible repeat (first | refine blk_drewN ?_ _ | refine blk_drew ?_ | refine blk_alloc ?_ _)); exact BK1393.out)) : gb1393 ≠ gb1397)); have n10_ := Aside0.mk ((by rw [hg]; exact Nat.ne_of_gt (blk_lt (g := gb1393) (o := .cells #[.slice (some ad1396) l1_0.length c1_0, .slice A1_1 l1_1.length c1_1, .int .i64 a1_2] 83 (0, 0)) (by (with_reducible repeat (first | refine blk_drewN ?_ _ | refine blk_drew ?_ | refine blk_alloc ?_ _)); refine blk_far ?_ NB1393_1395.out _; (with_reducible repeat (first | refine blk_drewN ?_ _ | refine blk_drew ?_ | refine blk_alloc ?_ _)); refine blk_far ?_ NB1393_1395.out _; (with_reducible repeat (first | refine blk_drewN ?_ _ | refine blk_drew ?_ | refine blk_alloc ?_ _)); exact BK1393.out)) : gb1397 ≠ gb1393)); have n11_ := Aside0.mk ((by rw [hg]; exact Nat.ne_of_lt (blk_lt (g := gb1395) (o := .cells #[.int .i64 ((rd_T147 l0_0 x28_2).f0), .int .i64 ((rd_T147 l0_0 x28_2).f1)] 147 (0, 0)) (by (with_reducible repeat (first | refine blk_drewN ?_ _ | refine blk_drew ?_ | refine blk_alloc ?_ _)); refine blk_put (cs := #[.int .i64 ((rd_T147 l0_0 x28_2).f0), .int .i64 0]) ?_ 1 _ rfl; (with_reducible repeat (first | refine blk_drewN ?_ _ | refine blk_drew ?_ | refine blk_alloc ?_ _)); refine blk_put (cs := #[.int .i64 0, .int .i64 0]) ?_ 0 _ rfl; (with_reducible repeat (first | refine blk_drewN ?_ _ | refine blk_drew ?_ | refine blk_alloc ?_ _)); exact BK1395.out)) : gb1395 ≠ gb1397)); have n12_ := Aside0.mk ((by rw [hg]; exact Nat.ne_of_gt (blk_lt (g := gb1395) (o := .cells #[.int .i64 ((rd_T147 l0_0 x28_2).f0), .int .i64 ((rd_T147 l0_0 x28_2).f1)] 147 (0, 0)) (by (with_reducible repeat (first | refine blk_drewN ?_ _ | refine blk_drew ?_ | refine blk_alloc ?_ _)); refine blk_put (cs := #[.int .i64 ((rd_T147 l0_0 x28_2).f0), .int .i64 0]) ?_ 1 _ rfl; (with_reducible repeat (first | refine blk_drewN ?_ _ | refine blk_drew ?_ | refine blk_alloc ?_ _)); refine blk_put (cs := #[.int .i64 0, .int .i64 0]) ?_ 0 _ rfl; (with_reducible repeat (first | refine blk_drewN ?_ _ | refine blk_drew ?_ | refine blk_alloc ?_ _)); exact BK1395.out)) : gb1397 ≠ gb1395)); clear BK1392; clear BK1393; clear BK1395; clear HB; have BK1392 := n0_; have BK1393 := n1_; have BK1395 := n2_; have HB := n3_; have BK1397 := n4_; have GW1397 := n5_; have GE1397 := n6_; have NB1392_1397 := n7_; have NB1397_1392 := n8_; have NB1393_1397 := n9_; have NB1397_1393 := n10_; have NB1395_1397 := n11_; have NB1397_1395 := n12_; clear n0_ n1_ n2_ n3_ n4_ n5_ n6_ n7_ n8_ n9_ n10_ n11_ n12_; clear hb hbox hg; have hnb55 := NB1397_1392.out; have hnc55 := NB1392_1397.out; have hnb56 := NB1397_1393.out; have hnc56 := NB1393_1397.out; have hnb57 := NB1397_1395.out; have hnc57 := NB1395_1397.out; have hcz58_0 : w54.cell? ⟨gb1397, 0, none⟩ = some (.int .i64 0) := (blk_cell BK1397.out 0).trans rfl; have hcz58_1 : w54.cell? ⟨gb1397, 1, none⟩ = some (.int .i64 0) := (blk_cell BK1397.out 1).trans rfl; have hfz58_0 := blk_frozen BK1397.out 0; have hfz58_1 := blk_frozen BK1397.out 1; have hcz59_0 : w54.cell? ⟨gb1393, 0, none⟩ = some (.slice (some ad1396) l1_0.length c1_0) := (blk_cell BK1393.out 0).trans rfl; have hcz59_1 : w54.cell? ⟨gb1393, 1, none⟩ = some (.slice A1_1 l1_1.length c1_1) := (blk_cell BK1393.out 1).trans rfl; have hcz59_2 : w54.cell? ⟨gb1393, 2, none⟩ = some (.int .i64 a1_2) := (blk_cell BK1393.out 2).trans rfl; have hfz59_0 := blk_frozen BK1393.out 0; have hfz59_1 := blk_frozen BK1393.out 1; have hfz59_2 := blk_frozen BK1393.out 2) | ((with_reducible refine gate_callee (f := 27) rfl ?_); refine goesL_ (some 42) rfl rfl Try.func27 (by kernel_rfl) rfl #[.agg #[.slice A1_1 l1_1.length c1_1], .int .i64 ((rd_T147 l1_0 x28_2).f1)] rfl (by (try simp only [List.map_toArray, List.map_cons, List.map_nil]); first | done | rfl | (simp only [List.length_drop, List.length_take]; rfl)) ?_; (with_reducible refine (impl_AllAt.calls k2 _ _ l1_1 ((rd_T147 l1_0 x28_2).f1) t1398 _ ?side1 ?side2 A20.out).mono ?_); (case side1 => exact Kd.C_below HR1_1.out (by repeat (first | (with_reducible first | exact HB.out | apply below_alloc | apply pw_below_drewN | apply below_drew1 | refine below_set ?_ GE1392.out | refine below_set ?_ GE1393.out | refine below_set ?_ GE1395.out | refine below_set ?_ GE1397.out) | exact HB.out))); (case side2 => exact HC1_1.out); rintro e w60 ⟨v1399, rfl, ho0, hb⟩; refine ⟨_, rfl, ?_⟩; have n0_ := Aside0.mk (Kd.R_lower ho0 (below_size (by repeat (first | (with_reducible first | exact HB.out | apply below_alloc | apply pw_below_drewN | apply below_drew1 | refine below_set ?_ GE1392.out | refine below_set ?_ GE1393.out | refine below_set ?_ GE1395.out | refine below_set ?_ GE1397.out) | exact HB.out)))); have n1_ := Aside0.mk (blk_below (g := gb1392) (o := .cells #[.slice (some ad1394) l0_0.length c0_0, .slice A0_1 l0_1.length c0_1, .int .i64 a0_2] 83 (0, 0)) (by (with_reducible repeat (first | refine blk_drewN ?_ _ | refine blk_drew ?_ | refine blk_alloc ?_ _)); refine blk_far ?_ NB1392_1397.out _; (with_reducible repeat (first | refine blk_drewN ?_ _ | refine blk_drew ?_ | refine blk_alloc ?_ _)); refine blk_far ?_ NB1392_1397.out _; (with_reducible repeat (first | refine blk_drewN ?_ _ | refine blk_drew ?_ | refine blk_alloc ?_ _)); exact BK1392.out) hb); have n2_ := Aside0.mk (blk_below (g := gb1393) (o := .cells #[.slice (some ad1396) l1_0.length c1_0, .slice A1_1 l1_1.length c1_1, .int .i64 a1_2] 83 (0, 0)) (by (with_reducible repeat (first | refine blk_drewN ?_ _ | refine blk_drew ?_ | refine blk_alloc ?_ _)); refine blk_far ?_ NB1393_1397.out _; (with_reducible repeat (first | refine blk_drewN ?_ _ | refine blk_drew ?_ | refine blk_alloc ?_ _)); refine blk_far ?_ NB1393_1397.out _; (with_reducible repeat (first | refine blk_drewN ?_ _ | refine blk_drew ?_ | refine blk_alloc ?_ _)); exact BK1393.out) hb); have n3_ := Aside0.mk (blk_below (g := gb1395) (o := .cells #[.int .i64 ((rd_T147 l0_0 x28_2).f0), .int .i64 ((rd_T147 l0_0 x28_2).f1)] 147 (0, 0)) (by (with_reducible repeat (first | refine blk_drewN ?_ _ | refine blk_drew ?_ | refine blk_alloc ?_ _)); refine blk_far ?_ NB1395_1397.out _; (with_reducible repeat (first | refine blk_drewN ?_ _ | refine blk_drew ?_ | refine blk_alloc ?_ _)); refine blk_far ?_ NB1395_1397.out _; (with_reducible repeat (first | refine blk_drewN ?_ _ | refine blk_drew ?_ | refine blk_alloc ?_ _)); exact BK1395.out) hb); have n4_ := Aside0.mk (blk_below (g := gb1397) (o := .cells #[.int .i64 ((rd_T147 l1_0 x28_2).f0), .int .i64 ((rd_T147 l1_0 x28_2).f1)] 147 (0, 0)) (by (with_reducible repeat (first | refine blk_drewN ?_ _ | refine blk_drew ?_ | refine blk_alloc ?_ _)); refine blk_put (cs := #[.int .i64 ((rd_T147 l1_0 x28_2).f0), .int .i64 0]) ?_ 1 _ rfl; (with_reducible repeat (first | refine blk_drewN ?_ _ | refine blk_drew ?_ | refine blk_alloc ?_ _)); refine blk_put (cs := #[.int .i64 0, .int .i64 0]) ?_ 0 _ rfl; (with_reducible repeat (first | refine blk_drewN ?_ _ | refine blk_drew ?_ | refine blk_alloc ?_ _)); exact BK1397.out) hb); have n5_ := Aside0.mk (below_step (by repeat (first | (with_reducible first | exact HB.out | apply below_alloc | apply pw_below_drewN | apply below_drew1 | refine below_set ?_ GE1392.out | refine below_set ?_ GE1393.out | refine below_set ?_ GE1395.out | refine below_set ?_ GE1397.out) | exact HB.out)) hb); clear BK1392; clear BK1393; clear BK1395; clear BK1397; clear HB; have HO1400 := n0_; have BK1392 := n1_; have BK1393 := n2_; have BK1395 := n3_; have BK1397 := n4_; have HB := n5_; clear n0_ n1_ n2_ n3_ n4_ n5_; (try clear hb); (try clear hb2); (try clear hk); (try clear hi); (try clear ho0); have hcz61_0 : w60.cell? ⟨gb1395, 0, none⟩ = some (.int .i64 ((rd_T147 l0_0 x28_2).f0)) := (blk_cell BK1395.out 0).trans rfl; have hcz61_1 : w60.cell? ⟨gb1395, 1, none⟩ = some (.int .i64 ((rd_T147 l0_0 x28_2).f1)) := (blk_cell BK1395.out 1).trans rfl; have hfz61_0 := blk_frozen BK1395.out 0; have hfz61_1 := blk_frozen BK1395.out 1; have hcz62_0 : w60.cell? ⟨gb1397, 0, none⟩ = some (.int .i64 ((rd_T147 l1_0 x28_2).f0)) := (blk_cell BK1397.out 0).trans rfl; have hcz62_1 : w60.cell? ⟨gb1397, 1, none⟩ = some (.int .i64 ((rd_T147 l1_0 x28_2).f1)) := (blk_cell BK1397.out 1).trans rfl; have hfz62_0 := blk_frozen BK1397.out 0; have hfz62_1 := blk_frozen BK1397.out 1))
                      go_ret
                      exact ⟨by first | rfl | (simp [errW_none, errW_some] <;> rfl) | (simp [*, errW_none, errW_some] <;> rfl), by repeat (first | (with_reducible first | exact HB.out | apply below_alloc | apply pw_below_drewN | apply below_drew1 | refine below_set ?_ GE1392.out | refine below_set ?_ GE1393.out | refine below_set ?_ GE1395.out | refine below_set ?_ GE1397.out) | exact HB.out)⟩
                  · rw [if_neg c19] at H
                    exact absurd H (by simp)
                · rw [if_neg c18] at H
                  exact absurd H (by simp)
              · rw [if_neg c17] at H
                exact absurd H (by simp)
            · rw [if_neg c16] at H
              have c16b0 : decide (x28_2 < (l0_0.length : Int)) = false := decide_eq_false c16
              clear c16
              obtain rfl := Option.some.inj H
              go_wp2
              go_ret
              exact ⟨by first | rfl | (simp [errW_none, errW_some] <;> rfl) | (simp [*, errW_none, errW_some] <;> rfl), by repeat (first | (with_reducible first | exact HB.out | apply below_alloc | apply pw_below_drewN | apply below_drew1 | refine below_set ?_ GE1392.out | refine below_set ?_ GE1393.out) | exact HB.out)⟩

end Go.Proofs.Ytdolplcbokioaaa.PB

/- Functions of the translation as plain Lean functions, and for each that its call comes to just what its Lean function answers; its conditions stand in each theorem. Written by a program of this session. -/
namespace Go.Proofs.Ytdolplcbokioaaa.PB
open Go.RowKit Go.Proofs.YtdolplcbokioaaaW.PrintWords Go.Proofs.YtdolplcbokioaaaW.PrintLast Go.Proofs.YtdolplcbokioaaaW.PrintMore
attribute [local go_sem] max2_int min2_int max_two min_two max_three min_three max_four min_four   -- for this text's walks alone
set_option linter.unusedVariables false
set_option linter.unusedSimpArgs false

/-! ### laws_FnExactSameStore: function 11 -/
def laws_FnExactSameStore.f (k : Nat) (l0_0 : List (S184)) (l0_1 : List (S175)) (a0_2 : Int) (l1_0 : List (S184)) (l1_1 : List (S175)) (a1_2 : Int) : Option (Bool) := (laws_szStore.f k l0_0 l0_1 a0_2 1048576).bind fun t1408 => (if t1408 < 0 then (some true) else ((laws_szStore.f k l1_0 l1_1 a1_2 t1408).bind fun t1409 => (if t1409 < 0 then (some true) else ((laws_toStore.f k l0_0 l0_1 a0_2).bind fun bt1410 => ((laws_toStore.f k l1_0 l1_1 a1_2).bind fun bt1417 => ((spec_SameStore.f k bt1410.1 bt1410.2.1 bt1410.2.2 bt1417.1 bt1417.2.1 bt1417.2.2).bind fun t1424 => ((laws_toStore.f k l0_0 l0_1 a0_2).bind fun bt1425 => ((laws_toStore.f k l1_0 l1_1 a1_2).bind fun bt1433 => ((impl_SameStore.f k bt1425.1 bt1425.2.1 bt1425.2.2 bt1433.1 bt1433.2.1 bt1433.2.2).bind fun t1441 => (if (t1441 != t1424) = true then (some false) else ((laws_toStore.f k l0_0 l0_1 a0_2).bind fun bt1442 => ((laws_eqStore.f k bt1425.1 bt1425.2.1 bt1425.2.2 bt1442.1 bt1442.2.1 bt1442.2.2).bind fun t1449 => (if t1449 = true then ((laws_toStore.f k l1_0 l1_1 a1_2).bind fun bt1450 => ((laws_eqStore.f k bt1433.1 bt1433.2.1 bt1433.2.2 bt1450.1 bt1450.2.1 bt1450.2.2).bind fun t1457 => (if t1457 = true then (some true) else (some false)))) else (some false))))))))))))))
theorem laws_FnExactSameStore.mono : ∀ a0 a1 a2 a3 a4 a5 k, LeO (laws_FnExactSameStore.f k a0 a1 a2 a3 a4 a5) (laws_FnExactSameStore.f (k + 1) a0 a1 a2 a3 a4 a5) := by
  intro a0 a1 a2 a3 a4 a5 k
  unfold laws_FnExactSameStore.f
  repeat' first
      | (with_reducible exact impl_SameStore.mono _ _ _ _ _ _ _)
      | (with_reducible exact laws_eqStore.mono _ _ _ _ _ _ _)
      | (with_reducible exact laws_szStore.mono _ _ _ _ _)
      | (with_reducible exact laws_toStore.mono _ _ _ _)
      | (with_reducible exact spec_SameStore.mono _ _ _ _ _ _ _)
      | (with_reducible exact LeO.refl _)
      | (with_reducible exact LeO.none _)
      | (with_reducible refine LeO.ite ?_ ?_)
      | (with_reducible refine LeO.bind ?_ (fun _ => ?_))
      | exact impl_SameStore.mono _ _ _ _ _ _ _
      | exact laws_eqStore.mono _ _ _ _ _ _ _
      | exact laws_szStore.mono _ _ _ _ _
      | exact laws_toStore.mono _ _ _ _
      | exact spec_SameStore.mono _ _ _ _ _ _ _
      | exact LeO.none _
      | refine LeO.ite ?_ ?_
      | refine LeO.bind ?_ (fun _ => ?_)
set_option maxHeartbeats 8000000 in
set_option maxRecDepth 100000 in
theorem laws_FnExactSameStore.calls (k : Nat) (A0_0 : Option Addr) (c0_0 : Nat) (l0_0 : List (S184)) (A0_1 : Option Addr) (c0_1 : Nat) (l0_1 : List (S175)) (a0_2 : Int) (A1_0 : Option Addr) (c1_0 : Nat) (l1_0 : List (S184)) (A1_1 : Option Addr) (c1_1 : Nat) (l1_1 : List (S175)) (a1_2 : Int) (r : Bool) (hT : Aside0 (r = true)) (w : World) (hr0_0 : Kd.C k184 w A0_0 l0_0.length l0_0) (hc0_0 : l0_0.length ≤ c0_0) (hr0_1 : Kd.C k175 w A0_1 l0_1.length l0_1) (hc0_1 : l0_1.length ≤ c0_1) (hr1_0 : Kd.C k184 w A1_0 l1_0.length l1_0) (hc1_0 : l1_0.length ≤ c1_0) (hr1_1 : Kd.C k175 w A1_1 l1_1.length l1_1) (hc1_1 : l1_1.length ≤ c1_1) (h : laws_FnExactSameStore.f k l0_0 l0_1 a0_2 l1_0 l1_1 a1_2 = some r) :
    Calls Try.prog 11 #[.agg #[.slice A0_0 l0_0.length c0_0, .slice A0_1 l0_1.length c0_1, .int .i64 a0_2], .agg #[.slice A1_0 l1_0.length c1_0, .slice A1_1 l1_1.length c1_1, .int .i64 a1_2]] w fun e w' => e = .returned (.bool r) ∧ Below w.heap.size w w' := by
  have hu78 := Try.underlying78
  have hu83 := Try.underlying83
  have HR0_0 := Aside0.mk hr0_0
  have HC0_0 := Aside0.mk hc0_0
  clear hr0_0 hc0_0
  have HR0_1 := Aside0.mk hr0_1
  have HC0_1 := Aside0.mk hc0_1
  clear hr0_1 hc0_1
  have HR1_0 := Aside0.mk hr1_0
  have HC1_0 := Aside0.mk hc1_0
  clear hr1_0 hc1_0
  have HR1_1 := Aside0.mk hr1_1
  have HC1_1 := Aside0.mk hc1_1
  clear hr1_1 hc1_1
  have HB := Aside0.mk (Below.refl w.heap.size w)
  have H : ((laws_szStore.f k l0_0 l0_1 a0_2 1048576).bind fun t1408 => (if t1408 < 0 then (some true) else ((laws_szStore.f k l1_0 l1_1 a1_2 t1408).bind fun t1409 => (if t1409 < 0 then (some true) else ((laws_toStore.f k l0_0 l0_1 a0_2).bind fun bt1410 => ((laws_toStore.f k l1_0 l1_1 a1_2).bind fun bt1417 => ((spec_SameStore.f k bt1410.1 bt1410.2.1 bt1410.2.2 bt1417.1 bt1417.2.1 bt1417.2.2).bind fun t1424 => ((laws_toStore.f k l0_0 l0_1 a0_2).bind fun bt1425 => ((laws_toStore.f k l1_0 l1_1 a1_2).bind fun bt1433 => ((impl_SameStore.f k bt1425.1 bt1425.2.1 bt1425.2.2 bt1433.1 bt1433.2.1 bt1433.2.2).bind fun t1441 => (if (t1441 != t1424) = true then (some false) else ((laws_toStore.f k l0_0 l0_1 a0_2).bind fun bt1442 => ((laws_eqStore.f k bt1425.1 bt1425.2.1 bt1425.2.2 bt1442.1 bt1442.2.1 bt1442.2.2).bind fun t1449 => (if t1449 = true then ((laws_toStore.f k l1_0 l1_1 a1_2).bind fun bt1450 => ((laws_eqStore.f k bt1433.1 bt1433.2.1 bt1433.2.2 bt1450.1 bt1450.2.1 bt1450.2.2).bind fun t1457 => (if t1457 = true then (some true) else (some false)))) else (some false))))))))))))))) = some r := h
  clear h
  replace H := Option.bind_eq_some_iff.mp H
  obtain ⟨t1408, A30, H⟩ := H
  replace H : (if t1408 < 0 then (some true) else ((laws_szStore.f k l1_0 l1_1 a1_2 t1408).bind fun t1409 => (if t1409 < 0 then (some true) else ((laws_toStore.f k l0_0 l0_1 a0_2).bind fun bt1410 => ((laws_toStore.f k l1_0 l1_1 a1_2).bind fun bt1417 => ((spec_SameStore.f k bt1410.1 bt1410.2.1 bt1410.2.2 bt1417.1 bt1417.2.1 bt1417.2.2).bind fun t1424 => ((laws_toStore.f k l0_0 l0_1 a0_2).bind fun bt1425 => ((laws_toStore.f k l1_0 l1_1 a1_2).bind fun bt1433 => ((impl_SameStore.f k bt1425.1 bt1425.2.1 bt1425.2.2 bt1433.1 bt1433.2.1 bt1433.2.2).bind fun t1441 => (if (t1441 != t1424) = true then (some false) else ((laws_toStore.f k l0_0 l0_1 a0_2).bind fun bt1442 => ((laws_eqStore.f k bt1425.1 bt1425.2.1 bt1425.2.2 bt1442.1 bt1442.2.1 bt1442.2.2).bind fun t1449 => (if t1449 = true then ((laws_toStore.f k l1_0 l1_1 a1_2).bind fun bt1450 => ((laws_eqStore.f k bt1433.1 bt1433.2.1 bt1433.2.2 bt1450.1 bt1450.2.1 bt1450.2.2).bind fun t1457 => (if t1457 = true then (some true) else (some false)))) else (some false)))))))))))))) = some r := H
  have A3 := Aside0.mk A30
  clear A30
  by_cases c4 : t1408 < 0
  · rw [if_pos c4] at H
    have c4b0 : decide (t1408 < 0) = true := decide_eq_true c4
    clear c4
    obtain rfl := Option.some.inj H
    go_enter Try.func11, Try.ntmps11
    go_wp2_with (first | ((with_reducible refine gate_dst (N := 2) rfl ?_); refine box_event ?hg (N := 2) ?hd (cs := #[.slice A0_0 l0_0.length c0_0, .slice A0_1 l0_1.length c0_1, .int .i64 a0_2]) (t := 78) ?hr ?_; (case hd => rfl); (case hg => rfl); (case hr => first | (go_simp; done) | (go_simp; rfl)); intro gb1406 hg w5 hbox hb; have n0_ := Aside0.mk (below_step (by repeat (first | (with_reducible first | exact HB.out | apply below_alloc | apply pw_below_drewN | apply below_drew1) | exact HB.out)) hb); have n1_ := Aside0.mk (hbox); have n2_ := Aside0.mk ((by rw [hg]; exact (below_size (by repeat (first | (with_reducible first | exact HB.out | apply below_alloc | apply pw_below_drewN | apply below_drew1) | exact HB.out))) : w.heap.size ≤ gb1406)); have n3_ := Aside0.mk ((by rw [hg]; exact (below_size (by repeat (first | (with_reducible first | exact HB.out | apply below_alloc | apply pw_below_drewN | apply below_drew1) | exact HB.out))) : w.heap.size ≤ gb1406)); clear HB; have HB := n0_; have BK1406 := n1_; have GW1406 := n2_; have GE1406 := n3_; clear n0_ n1_ n2_ n3_; clear hb hbox hg) | ((with_reducible refine gate_dst (N := 3) rfl ?_); refine box_event ?hg (N := 3) ?hd (cs := #[.slice A1_0 l1_0.length c1_0, .slice A1_1 l1_1.length c1_1, .int .i64 a1_2]) (t := 78) ?hr ?_; (case hd => rfl); (case hg => rfl); (case hr => first | (go_simp; done) | (go_simp; rfl)); intro gb1407 hg w6 hbox hb; have n0_ := Aside0.mk (blk_below (g := gb1406) (o := .cells #[.slice A0_0 l0_0.length c0_0, .slice A0_1 l0_1.length c0_1, .int .i64 a0_2] 78 (0, 0)) (by (with_reducible repeat (first | refine blk_drewN ?_ _ | refine blk_drew ?_ | refine blk_alloc ?_ _)); exact BK1406.out) hb); have n1_ := Aside0.mk (below_step (by repeat (first | (with_reducible first | exact HB.out | apply below_alloc | apply pw_below_drewN | apply below_drew1 | refine below_set ?_ GE1406.out) | exact HB.out)) hb); have n2_ := Aside0.mk (hbox); have n3_ := Aside0.mk ((by rw [hg]; exact (below_size (by repeat (first | (with_reducible first | exact HB.out | apply below_alloc | apply pw_below_drewN | apply below_drew1 | refine below_set ?_ GE1406.out) | exact HB.out))) : w.heap.size ≤ gb1407)); have n4_ := Aside0.mk ((by rw [hg]; exact (below_size (by repeat (first | (with_reducible first | exact HB.out | apply below_alloc | apply pw_below_drewN | apply below_drew1 | refine below_set ?_ GE1406.out) | exact HB.out))) : w.heap.size ≤ gb1407)); have n5_ := Aside0.mk ((by rw [hg]; exact Nat.ne_of_lt (blk_lt (g := gb1406) (o := .cells #[.slice A0_0 l0_0.length c0_0, .slice A0_1 l0_1.length c0_1, .int .i64 a0_2] 78 (0, 0)) (by (with_reducible repeat (first | refine blk_drewN ?_ _ | refine blk_drew ?_ | refine blk_alloc ?_ _)); exact BK1406.out)) : gb1406 ≠ gb1407)); have n6_ := Aside0.mk ((by rw [hg]; exact Nat.ne_of_gt (blk_lt (g := gb1406) (o := .cells #[.slice A0_0 l0_0.length c0_0, .slice A0_1 l0_1.length c0_1, .int .i64 a0_2] 78 (0, 0)) (by (with_reducible repeat (first | refine blk_drewN ?_ _ | refine blk_drew ?_ | refine blk_alloc ?_ _)); exact BK1406.out)) : gb1407 ≠ gb1406)); clear BK1406; clear HB; have BK1406 := n0_; have HB := n1_; have BK1407 := n2_; have GW1407 := n3_; have GE1407 := n4_; have NB1406_1407 := n5_; have NB1407_1406 := n6_; clear n0_ n1_ n2_ n3_ n4_ n5_ n6_; clear hb hbox hg; have hnb7 := NB1406_1407.out; have hnc7 := NB1407_1406.out; have hcz8_0 : w6.cell? ⟨gb1406, 0, none⟩ = some (.slice A0_0 l0_0.length c0_0) := (blk_cell BK1406.out 0).trans rfl; have hcz8_1 : w6.cell? ⟨gb1406, 1, none⟩ = some (.slice A0_1 l0_1.length c0_1) := (blk_cell BK1406.out 1).trans rfl; have hcz8_2 : w6.cell? ⟨gb1406, 2, none⟩ = some (.int .i64 a0_2) := (blk_cell BK1406.out 2).trans rfl; have hfz8_0 := blk_frozen BK1406.out 0; have hfz8_1 := blk_frozen BK1406.out 1; have hfz8_2 := blk_frozen BK1406.out 2) | ((with_reducible refine gate_callee (f := 44) rfl ?_); refine goesL_ (some 12) rfl rfl Try.func44 (by kernel_rfl) rfl #[.agg #[.slice A0_0 l0_0.length c0_0, .slice A0_1 l0_1.length c0_1, .int .i64 a0_2], .int .i64 1048576] rfl (by (try simp only [List.map_toArray, List.map_cons, List.map_nil]); first | done | rfl | (simp only [List.length_drop, List.length_take]; rfl)) ?_; (with_reducible refine (laws_szStore.calls k _ _ l0_0 _ _ l0_1 a0_2 1048576 t1408 _ ?side1 ?side2 ?side3 ?side4 A3.out).mono ?_); (case side1 => repeat (first | exact (Kd.C_below HR0_0.out HB.out) | (with_reducible refine Kd.C_alloc ?_ _) | (with_reducible refine Kd.C_drewN ?_ _) | (with_reducible refine Kd.C_drew ?_))); (case side2 => exact HC0_0.out); (case side3 => repeat (first | exact (Kd.C_below HR0_1.out HB.out) | (with_reducible refine Kd.C_alloc ?_ _) | (with_reducible refine Kd.C_drewN ?_ _) | (with_reducible refine Kd.C_drew ?_))); (case side4 => exact HC0_1.out); rintro e w9 ⟨rfl, hb⟩; refine ⟨_, rfl, ?_⟩; have n0_ := Aside0.mk (blk_below (g := gb1406) (o := .cells #[.slice A0_0 l0_0.length c0_0, .slice A0_1 l0_1.length c0_1, .int .i64 a0_2] 78 (0, 0)) (by (with_reducible repeat (first | refine blk_drewN ?_ _ | refine blk_drew ?_ | refine blk_alloc ?_ _)); exact BK1406.out) hb); have n1_ := Aside0.mk (blk_below (g := gb1407) (o := .cells #[.slice A1_0 l1_0.length c1_0, .slice A1_1 l1_1.length c1_1, .int .i64 a1_2] 78 (0, 0)) (by (with_reducible repeat (first | refine blk_drewN ?_ _ | refine blk_drew ?_ | refine blk_alloc ?_ _)); exact BK1407.out) hb); have n2_ := Aside0.mk (below_step (by repeat (first | (with_reducible first | exact HB.out | apply below_alloc | apply pw_below_drewN | apply below_drew1 | refine below_set ?_ GE1406.out | refine below_set ?_ GE1407.out) | exact HB.out)) hb); clear BK1406; clear BK1407; clear HB; have BK1406 := n0_; have BK1407 := n1_; have HB := n2_; clear n0_ n1_ n2_; (try clear hb); (try clear hb2); (try clear hk); (try clear hi)))
    go_ret
    exact ⟨by first | rfl | (simp [errW_none, errW_some] <;> rfl) | (simp [*, errW_none, errW_some] <;> rfl), by repeat (first | (with_reducible first | exact HB.out | apply below_alloc | apply pw_below_drewN | apply below_drew1 | refine below_set ?_ GE1406.out | refine below_set ?_ GE1407.out) | exact HB.out)⟩
  · rw [if_neg c4] at H
    have c4b0 : decide (t1408 < 0) = false := decide_eq_false c4
    clear c4
    replace H := Option.bind_eq_some_iff.mp H
    obtain ⟨t1409, A100, H⟩ := H
    replace H : (if t1409 < 0 then (some true) else ((laws_toStore.f k l0_0 l0_1 a0_2).bind fun bt1410 => ((laws_toStore.f k l1_0 l1_1 a1_2).bind fun bt1417 => ((spec_SameStore.f k bt1410.1 bt1410.2.1 bt1410.2.2 bt1417.1 bt1417.2.1 bt1417.2.2).bind fun t1424 => ((laws_toStore.f k l0_0 l0_1 a0_2).bind fun bt1425 => ((laws_toStore.f k l1_0 l1_1 a1_2).bind fun bt1433 => ((impl_SameStore.f k bt1425.1 bt1425.2.1 bt1425.2.2 bt1433.1 bt1433.2.1 bt1433.2.2).bind fun t1441 => (if (t1441 != t1424) = true then (some false) else ((laws_toStore.f k l0_0 l0_1 a0_2).bind fun bt1442 => ((laws_eqStore.f k bt1425.1 bt1425.2.1 bt1425.2.2 bt1442.1 bt1442.2.1 bt1442.2.2).bind fun t1449 => (if t1449 = true then ((laws_toStore.f k l1_0 l1_1 a1_2).bind fun bt1450 => ((laws_eqStore.f k bt1433.1 bt1433.2.1 bt1433.2.2 bt1450.1 bt1450.2.1 bt1450.2.2).bind fun t1457 => (if t1457 = true then (some true) else (some false)))) else (some false)))))))))))) = some r := H
    have A10 := Aside0.mk A100
    clear A100
    by_cases c11 : t1409 < 0
    · rw [if_pos c11] at H
      have c11b0 : decide (t1409 < 0) = true := decide_eq_true c11
      clear c11
      obtain rfl := Option.some.inj H
      go_enter Try.func11, Try.ntmps11
      go_wp2_with (first | ((with_reducible refine gate_dst (N := 2) rfl ?_); refine box_event ?hg (N := 2) ?hd (cs := #[.slice A0_0 l0_0.length c0_0, .slice A0_1 l0_1.length c0_1, .int .i64 a0_2]) (t := 78) ?hr ?_; (case hd => rfl); (case hg => rfl); (case hr => first | (go_simp; done) | (go_simp; rfl)); intro gb1406 hg w12 hbox hb; have n0_ := Aside0.mk (below_step (by repeat (first | (with_reducible first | exact HB.out | apply below_alloc | apply pw_below_drewN | apply below_drew1) | exact HB.out)) hb); have n1_ := Aside0.mk (hbox); have n2_ := Aside0.mk ((by rw [hg]; exact (below_size (by repeat (first | (with_reducible first | exact HB.out | apply below_alloc | apply pw_below_drewN | apply below_drew1) | exact HB.out))) : w.heap.size ≤ gb1406)); have n3_ := Aside0.mk ((by rw [hg]; exact (below_size (by repeat (first | (with_reducible first | exact HB.out | apply below_alloc | apply pw_below_drewN | apply below_drew1) | exact HB.out))) : w.heap.size ≤ gb1406)); clear HB; have HB := n0_; have BK1406 := n1_; have GW1406 := n2_; have GE1406 := n3_; clear n0_ n1_ n2_ n3_; clear hb hbox hg) | ((with_reducible refine gate_dst (N := 3) rfl ?_); refine box_event ?hg (N := 3) ?hd (cs := #[.slice A1_0 l1_0.length c1_0, .slice A1_1 l1_1.length c1_1, .int .i64 a1_2]) (t := 78) ?hr ?_; (case hd => rfl); (case hg => rfl); (case hr => first | (go_simp; done) | (go_simp; rfl)); intro gb1407 hg w13 hbox hb; have n0_ := Aside0.mk (blk_below (g := gb1406) (o := .cells #[.slice A0_0 l0_0.length c0_0, .slice A0_1 l0_1.length c0_1, .int .i64 a0_2] 78 (0, 0)) (by (with_reducible repeat (first | refine blk_drewN ?_ _ | refine blk_drew ?_ | refine blk_alloc ?_ _)); exact BK1406.out) hb); have n1_ := Aside0.mk (below_step (by repeat (first | (with_reducible first | exact HB.out | apply below_alloc | apply pw_below_drewN | apply below_drew1 | refine below_set ?_ GE1406.out) | exact HB.out)) hb); have n2_ := Aside0.mk (hbox); have n3_ := Aside0.mk ((by rw [hg]; exact (below_size (by repeat (first | (with_reducible first | exact HB.out | apply below_alloc | apply pw_below_drewN | apply below_drew1 | refine below_set ?_ GE1406.out) | exact HB.out))) : w.heap.size ≤ gb1407)); have n4_ := Aside0.mk ((by rw [hg]; exact (below_size (by repeat (first | (with_reducible first | exact HB.out | apply below_alloc | apply pw_below_drewN | apply below_drew1 | refine below_set ?_ GE1406.out) | exact HB.out))) : w.heap.size ≤ gb1407)); have n5_ := Aside0.mk ((by rw [hg]; exact Nat.ne_of_lt (blk_lt (g := gb1406) (o := .cells #[.slice A0_0 l0_0.length c0_0, .slice A0_1 l0_1.length c0_1, .int .i64 a0_2] 78 (0, 0)) (by (with_reducible repeat (first | refine blk_drewN ?_ _ | refine blk_drew ?_ | refine blk_alloc ?_ _)); exact BK1406.out)) : gb1406 ≠ gb1407)); have n6_ := Aside0.mk ((by rw [hg]; exact Nat.ne_of_gt (blk_lt (g := gb1406) (o := .cells #[.slice A0_0 l0_0.length c0_0, .slice A0_1 l0_1.length c0_1, .int .i64 a0_2] 78 (0, 0)) (by (with_reducible repeat (first | refine blk_drewN ?_ _ | refine blk_drew ?_ | refine blk_alloc ?_ _)); exact BK1406.out)) : gb1407 ≠ gb1406)); clear BK1406; clear HB; have BK1406 := n0_; have HB := n1_; have BK1407 := n2_; have GW1407 := n3_; have GE1407 := n4_; have NB1406_1407 := n5_; have NB1407_1406 := n6_; clear n0_ n1_ n2_ n3_ n4_ n5_ n6_; clear hb hbox hg; have hnb14 := NB1406_1407.out; have hnc14 := NB1407_1406.out; have hcz15_0 : w13.cell? ⟨gb1406, 0, none⟩ = some (.slice A0_0 l0_0.length c0_0) := (blk_cell BK1406.out 0).trans rfl; have hcz15_1 : w13.cell? ⟨gb1406, 1, none⟩ = some (.slice A0_1 l0_1.length c0_1) := (blk_cell BK1406.out 1).trans rfl; have hcz15_2 : w13.cell? ⟨gb1406, 2, none⟩ = some (.int .i64 a0_2) := (blk_cell BK1406.out 2).trans rfl; have hfz15_0 := blk_frozen BK1406.out 0; have hfz15_1 := blk_frozen BK1406.out 1; have hfz15_2 := blk_frozen BK1406.out 2) | ((with_reducible refine gate_callee (f := 44) rfl ?_); refine goesL_ (some 12) rfl rfl Try.func44 (by kernel_rfl) rfl #[.agg #[.slice A0_0 l0_0.length c0_0, .slice A0_1 l0_1.length c0_1, .int .i64 a0_2], .int .i64 1048576] rfl (by (try simp only [List.map_toArray, List.map_cons, List.map_nil]); first | done | rfl | (simp only [List.length_drop, List.length_take]; rfl)) ?_; (with_reducible refine (laws_szStore.calls k _ _ l0_0 _ _ l0_1 a0_2 1048576 t1408 _ ?side1 ?side2 ?side3 ?side4 A3.out).mono ?_); (case side1 => repeat (first | exact (Kd.C_below HR0_0.out HB.out) | (with_reducible refine Kd.C_alloc ?_ _) | (with_reducible refine Kd.C_drewN ?_ _) | (with_reducible refine Kd.C_drew ?_))); (case side2 => exact HC0_0.out); (case side3 => repeat (first | exact (Kd.C_below HR0_1.out HB.out) | (with_reducible refine Kd.C_alloc ?_ _) | (with_reducible refine Kd.C_drewN ?_ _) | (with_reducible refine Kd.C_drew ?_))); (case side4 => exact HC0_1.out); rintro e w16 ⟨rfl, hb⟩; refine ⟨_, rfl, ?_⟩; have n0_ := Aside0.mk (blk_below (g := gb1406) (o := .cells #[.slice A0_0 l0_0.length c0_0, .slice A0_1 l0_1.length c0_1, .int .i64 a0_2] 78 (0, 0)) (by (with_reducible repeat (first | refine blk_drewN ?_ _ | refine blk_drew ?_ | refine blk_alloc ?_ _)); exact BK1406.out) hb); have n1_ := Aside0.mk (blk_below (g := gb1407) (o := .cells #[.slice A1_0 l1_0.length c1_0, .slice A1_1 l1_1.length c1_1, .int .i64 a1_2] 78 (0, 0)) (by (with_reducible repeat (first | refine blk_drewN ?_ _ | refine blk_drew ?_ | refine blk_alloc ?_ _)); exact BK1407.out) hb); have n2_ := Aside0.mk (below_step (by repeat (first | (with_reducible first | exact HB.out | apply below_alloc | apply pw_below_drewN | apply below_drew1 | refine below_set ?_ GE1406.out | refine below_set ?_ GE1407.out) | exact HB.out)) hb); clear BK1406; clear BK1407; clear HB; have BK1406 := n0_; have BK1407 := n1_; have HB := n2_; clear n0_ n1_ n2_; (try clear hb); (try clear hb2); (try clear hk); (try clear hi); have hcz17_0 : w16.cell? ⟨gb1407, 0, none⟩ = some (.slice A1_0 l1_0.length c1_0) := (blk_cell BK1407.out 0).trans rfl; have hcz17_1 : w16.cell? ⟨gb1407, 1, none⟩ = some (.slice A1_1 l1_1.length c1_1) := (blk_cell BK1407.out 1).trans rfl; have hcz17_2 : w16.cell? ⟨gb1407, 2, none⟩ = some (.int .i64 a1_2) := (blk_cell BK1407.out 2).trans rfl; have hfz17_0 := blk_frozen BK1407.out 0; have hfz17_1 := blk_frozen BK1407.out 1; have hfz17_2 := blk_frozen BK1407.out 2) | ((with_reducible refine gate_callee (f := 44) rfl ?_); refine goesL_ (some 17) rfl rfl Try.func44 (by kernel_rfl) rfl #[.agg #[.slice A1_0 l1_0.length c1_0, .slice A1_1 l1_1.length c1_1, .int .i64 a1_2], .int .i64 t1408] rfl (by (try simp only [List.map_toArray, List.map_cons, List.map_nil]); first | done | rfl | (simp only [List.length_drop, List.length_take]; rfl)) ?_; (with_reducible refine (laws_szStore.calls k _ _ l1_0 _ _ l1_1 a1_2 t1408 t1409 _ ?side1 ?side2 ?side3 ?side4 A10.out).mono ?_); (case side1 => repeat (first | exact (Kd.C_below HR1_0.out HB.out) | (with_reducible refine Kd.C_alloc ?_ _) | (with_reducible refine Kd.C_drewN ?_ _) | (with_reducible refine Kd.C_drew ?_))); (case side2 => exact HC1_0.out); (case side3 => repeat (first | exact (Kd.C_below HR1_1.out HB.out) | (with_reducible refine Kd.C_alloc ?_ _) | (with_reducible refine Kd.C_drewN ?_ _) | (with_reducible refine Kd.C_drew ?_))); (case side4 => exact HC1_1.out); rintro e w18 ⟨rfl, hb⟩; refine ⟨_, rfl, ?_⟩; have n0_ := Aside0.mk (blk_below (g := gb1406) (o := .cells #[.slice A0_0 l0_0.length c0_0, .slice A0_1 l0_1.length c0_1, .int .i64 a0_2] 78 (0, 0)) (by (with_reducible repeat (first | refine blk_drewN ?_ _ | refine blk_drew ?_ | refine blk_alloc ?_ _)); exact BK1406.out) hb); have n1_ := Aside0.mk (blk_below (g := gb1407) (o := .cells #[.slice A1_0 l1_0.length c1_0, .slice A1_1 l1_1.length c1_1, .int .i64 a1_2] 78 (0, 0)) (by (with_reducible repeat (first | refine blk_drewN ?_ _ | refine blk_drew ?_ | refine blk_alloc ?_ _)); exact BK1407.out) hb); have n2_ := Aside0.mk (below_step (by repeat (first | (with_reducible first | exact HB.out | apply below_alloc | apply pw_below_drewN | apply below_drew1 | refine below_set ?_ GE1406.out | refine below_set ?_ GE1407.out) | exact HB.out)) hb); clear BK1406; clear BK1407; clear HB; have BK1406 := n0_; have BK1407 := n1_; have HB := n2_; clear n0_ n1_ n2_; (try clear hb); (try clear hb2); (try clear hk); (try clear hi)))
      go_ret
      exact ⟨by first | rfl | (simp [errW_none, errW_some] <;> rfl) | (simp [*, errW_none, errW_some] <;> rfl), by repeat (first | (with_reducible first | exact HB.out | apply below_alloc | apply pw_below_drewN | apply below_drew1 | refine below_set ?_ GE1406.out | refine below_set ?_ GE1407.out) | exact HB.out)⟩
    · rw [if_neg c11] at H
      have c11b0 : decide (t1409 < 0) = false := decide_eq_false c11
      clear c11
      replace H := Option.bind_eq_some_iff.mp H
      obtain ⟨⟨t1410, t1413, t1416⟩, A190, H⟩ := H
      replace H : ((laws_toStore.f k l1_0 l1_1 a1_2).bind fun bt1417 => ((spec_SameStore.f k t1410 t1413 t1416 bt1417.1 bt1417.2.1 bt1417.2.2).bind fun t1424 => ((laws_toStore.f k l0_0 l0_1 a0_2).bind fun bt1425 => ((laws_toStore.f k l1_0 l1_1 a1_2).bind fun bt1433 => ((impl_SameStore.f k bt1425.1 bt1425.2.1 bt1425.2.2 bt1433.1 bt1433.2.1 bt1433.2.2).bind fun t1441 => (if (t1441 != t1424) = true then (some false) else ((laws_toStore.f k l0_0 l0_1 a0_2).bind fun bt1442 => ((laws_eqStore.f k bt1425.1 bt1425.2.1 bt1425.2.2 bt1442.1 bt1442.2.1 bt1442.2.2).bind fun t1449 => (if t1449 = true then ((laws_toStore.f k l1_0 l1_1 a1_2).bind fun bt1450 => ((laws_eqStore.f k bt1433.1 bt1433.2.1 bt1433.2.2 bt1450.1 bt1450.2.1 bt1450.2.2).bind fun t1457 => (if t1457 = true then (some true) else (some false)))) else (some false)))))))))) = some r := H
      have A19 := Aside0.mk A190
      clear A190
      replace H := Option.bind_eq_some_iff.mp H
      obtain ⟨⟨t1417, t1420, t1423⟩, A200, H⟩ := H
      replace H : ((spec_SameStore.f k t1410 t1413 t1416 t1417 t1420 t1423).bind fun t1424 => ((laws_toStore.f k l0_0 l0_1 a0_2).bind fun bt1425 => ((laws_toStore.f k l1_0 l1_1 a1_2).bind fun bt1433 => ((impl_SameStore.f k bt1425.1 bt1425.2.1 bt1425.2.2 bt1433.1 bt1433.2.1 bt1433.2.2).bind fun t1441 => (if (t1441 != t1424) = true then (some false) else ((laws_toStore.f k l0_0 l0_1 a0_2).bind fun bt1442 => ((laws_eqStore.f k bt1425.1 bt1425.2.1 bt1425.2.2 bt1442.1 bt1442.2.1 bt1442.2.2).bind fun t1449 => (if t1449 = true then ((laws_toStore.f k l1_0 l1_1 a1_2).bind fun bt1450 => ((laws_eqStore.f k bt1433.1 bt1433.2.1 bt1433.2.2 bt1450.1 bt1450.2.1 bt1450.2.2).bind fun t1457 => (if t1457 = true then (some true) else (some false)))) else (some false))))))))) = some r := H
      have A20 := Aside0.mk A200
      clear A200
      replace H := Option.bind_eq_some_iff.mp H
      obtain ⟨t1424, A210, H⟩ := H
      replace H : ((laws_toStore.f k l0_0 l0_1 a0_2).bind fun bt1425 => ((laws_toStore.f k l1_0 l1_1 a1_2).bind fun bt1433 => ((impl_SameStore.f k bt1425.1 bt1425.2.1 bt1425.2.2 bt1433.1 bt1433.2.1 bt1433.2.2).bind fun t1441 => (if (t1441 != t1424) = true then (some false) else ((laws_toStore.f k l0_0 l0_1 a0_2).bind fun bt1442 => ((laws_eqStore.f k bt1425.1 bt1425.2.1 bt1425.2.2 bt1442.1 bt1442.2.1 bt1442.2.2).bind fun t1449 => (if t1449 = true then ((laws_toStore.f k l1_0 l1_1 a1_2).bind fun bt1450 => ((laws_eqStore.f k bt1433.1 bt1433.2.1 bt1433.2.2 bt1450.1 bt1450.2.1 bt1450.2.2).bind fun t1457 => (if t1457 = true then (some true) else (some false)))) else (some false)))))))) = some r := H
      have A21 := Aside0.mk A210
      clear A210
      replace H := Option.bind_eq_some_iff.mp H
      obtain ⟨⟨t1425, t1428, t1431⟩, A220, H⟩ := H
      replace H : ((laws_toStore.f k l1_0 l1_1 a1_2).bind fun bt1433 => ((impl_SameStore.f k t1425 t1428 t1431 bt1433.1 bt1433.2.1 bt1433.2.2).bind fun t1441 => (if (t1441 != t1424) = true then (some false) else ((laws_toStore.f k l0_0 l0_1 a0_2).bind fun bt1442 => ((laws_eqStore.f k t1425 t1428 t1431 bt1442.1 bt1442.2.1 bt1442.2.2).bind fun t1449 => (if t1449 = true then ((laws_toStore.f k l1_0 l1_1 a1_2).bind fun bt1450 => ((laws_eqStore.f k bt1433.1 bt1433.2.1 bt1433.2.2 bt1450.1 bt1450.2.1 bt1450.2.2).bind fun t1457 => (if t1457 = true then (some true) else (some false)))) else (some false))))))) = some r := H
      have A22 := Aside0.mk A220
      clear A220
      replace H := Option.bind_eq_some_iff.mp H
      obtain ⟨⟨t1433, t1436, t1439⟩, A230, H⟩ := H
      replace H : ((impl_SameStore.f k t1425 t1428 t1431 t1433 t1436 t1439).bind fun t1441 => (if (t1441 != t1424) = true then (some false) else ((laws_toStore.f k l0_0 l0_1 a0_2).bind fun bt1442 => ((laws_eqStore.f k t1425 t1428 t1431 bt1442.1 bt1442.2.1 bt1442.2.2).bind fun t1449 => (if t1449 = true then ((laws_toStore.f k l1_0 l1_1 a1_2).bind fun bt1450 => ((laws_eqStore.f k t1433 t1436 t1439 bt1450.1 bt1450.2.1 bt1450.2.2).bind fun t1457 => (if t1457 = true then (some true) else (some false)))) else (some false)))))) = some r := H
      have A23 := Aside0.mk A230
      clear A230
      replace H := Option.bind_eq_some_iff.mp H
      obtain ⟨t1441, A240, H⟩ := H
      replace H : (if (t1441 != t1424) = true then (some false) else ((laws_toStore.f k l0_0 l0_1 a0_2).bind fun bt1442 => ((laws_eqStore.f k t1425 t1428 t1431 bt1442.1 bt1442.2.1 bt1442.2.2).bind fun t1449 => (if t1449 = true then ((laws_toStore.f k l1_0 l1_1 a1_2).bind fun bt1450 => ((laws_eqStore.f k t1433 t1436 t1439 bt1450.1 bt1450.2.1 bt1450.2.2).bind fun t1457 => (if t1457 = true then (some true) else (some false)))) else (some false))))) = some r := H
      have A24 := Aside0.mk A240
      clear A240
      by_cases c25 : (t1441 != t1424) = true
      · rw [if_pos c25] at H
        have c25b0 : (t1441 != t1424) = true := c25
        (try (have c25b1 : decide (t1441 = t1424) = false := by simpa using c25))
        (try (have c25b2 : (t1441 == t1424) = false := by simpa using c25))
        (try (have c25b3 : ¬ (t1441 = t1424) := by simpa using c25))
        clear c25
        exact absurd ((Option.some.inj H).trans hT.out) (by decide)
      · rw [if_neg c25] at H
        have c25b0 : (t1441 != t1424) = false := by simpa using c25
        (try (have c25b1 : decide (t1441 = t1424) = true := by simpa using c25))
        (try (have c25b2 : (t1441 == t1424) = true := by simpa using c25))
        clear c25
        replace H := Option.bind_eq_some_iff.mp H
        obtain ⟨⟨t1442, t1445, t1448⟩, A260, H⟩ := H
        replace H : ((laws_eqStore.f k t1425 t1428 t1431 t1442 t1445 t1448).bind fun t1449 => (if t1449 = true then ((laws_toStore.f k l1_0 l1_1 a1_2).bind fun bt1450 => ((laws_eqStore.f k t1433 t1436 t1439 bt1450.1 bt1450.2.1 bt1450.2.2).bind fun t1457 => (if t1457 = true then (some true) else (some false)))) else (some false))) = some r := H
        have A26 := Aside0.mk A260
        clear A260
        replace H := Option.bind_eq_some_iff.mp H
        obtain ⟨t1449, A270, H⟩ := H
        replace H : (if t1449 = true then ((laws_toStore.f k l1_0 l1_1 a1_2).bind fun bt1450 => ((laws_eqStore.f k t1433 t1436 t1439 bt1450.1 bt1450.2.1 bt1450.2.2).bind fun t1457 => (if t1457 = true then (some true) else (some false)))) else (some false)) = some r := H
        have A27 := Aside0.mk A270
        clear A270
        by_cases c28 : t1449 = true
        · subst c28
          have H1 : ((laws_toStore.f k l1_0 l1_1 a1_2).bind fun bt1450 => ((laws_eqStore.f k t1433 t1436 t1439 bt1450.1 bt1450.2.1 bt1450.2.2).bind fun t1457 => (if t1457 = true then (some true) else (some false)))) = some r := by rw [if_pos rfl] at H; exact H
          clear H
          have H := H1
          clear H1
          replace H := Option.bind_eq_some_iff.mp H
          obtain ⟨⟨t1450, t1453, t1456⟩, A290, H⟩ := H
          replace H : ((laws_eqStore.f k t1433 t1436 t1439 t1450 t1453 t1456).bind fun t1457 => (if t1457 = true then (some true) else (some false))) = some r := H
          have A29 := Aside0.mk A290
          clear A290
          replace H := Option.bind_eq_some_iff.mp H
          obtain ⟨t1457, A300, H⟩ := H
          replace H : (if t1457 = true then (some true) else (some false)) = some r := H
          have A30 := Aside0.mk A300
          clear A300
          by_cases c31 : t1457 = true
          · subst c31
            have H1 : (some true) = some r := by rw [if_pos rfl] at H; exact H
            clear H
            have H := H1
            clear H1
            obtain rfl := Option.some.inj H
            go_enter Try.func11, Try.ntmps11
            try go_wp2_with (first | ((with_reducible refine gate_dst (N := 2) rfl ?_); refine box_event ?hg (N := 2) ?hd (cs := #[.slice A0_0 l0_0.length c0_0, .slice A0_1 l0_1.length c0_1, .int .i64 a0_2]) (t := 78) ?hr ?_; (case hd => rfl); (case hg => rfl); (case hr => first | (go_simp; done) | (go_simp; rfl)); intro gb1406 hg w32 hbox hb; have n0_ := Aside0.mk (below_step (by repeat (first | (with_reducible first | exact HB.out | apply below_alloc | apply pw_below_drewN | apply below_drew1) | exact HB.out)) hb); have n1_ := Aside0.mk (hbox); have n2_ := Aside0.mk ((by rw [hg]; exact (below_size (by repeat (first | (with_reducible first | exact HB.out | apply below_alloc | apply pw_below_drewN | apply below_drew1) | exact HB.out))) : w.heap.size ≤ gb1406)); have n3_ := Aside0.mk ((by rw [hg]; exact (below_size (by repeat (first | (with_reducible first | exact HB.out | apply below_alloc | apply pw_below_drewN | apply below_drew1) | exact HB.out))) : w.heap.size ≤ gb1406)); clear HB; have HB := n0_; have BK1406 := n1_; have GW1406 := n2_; have GE1406 := n3_; clear n0_ n1_ n2_ n3_; clear hb hbox hg) | ((with_reducible refine gate_dst (N := 3) rfl ?_); refine box_event ?hg (N := 3) ?hd (cs := #[.slice A1_0 l1_0.length c1_0, .slice A1_1 l1_1.length c1_1, .int .i64 a1_2]) (t := 78) ?hr ?_; (case hd => rfl); (case hg => rfl); (case hr => first | (go_simp; done) | (go_simp; rfl)); intro gb1407 hg w33 hbox hb; have n0_ := Aside0.mk (blk_below (g := gb1406) (o := .cells #[.slice A0_0 l0_0.length c0_0, .slice A0_1 l0_1.length c0_1, .int .i64 a0_2] 78 (0, 0)) (by (with_reducible repeat (first | refine blk_drewN ?_ _ | refine blk_drew ?_ | refine blk_alloc ?_ _)); exact BK1406.out) hb); have n1_ := Aside0.mk (below_step (by repeat (first | (with_reducible first | exact HB.out | apply below_alloc | apply pw_below_drewN | apply below_drew1 | refine below_set ?_ GE1406.out) | exact HB.out)) hb); have n2_ := Aside0.mk (hbox); have n3_ := Aside0.mk ((by rw [hg]; exact (below_size (by repeat (first | (with_reducible first | exact HB.out | apply below_alloc | apply pw_below_drewN | apply below_drew1 | refine below_set ?_ GE1406.out) | exact HB.out))) : w.heap.size ≤ gb1407)); have n4_ := Aside0.mk ((by rw [hg]; exact (below_size (by repeat (first | (with_reducible first | exact HB.out | apply below_alloc | apply pw_below_drewN | apply below_drew1 | refine below_set ?_ GE1406.out) | exact HB.out))) : w.heap.size ≤ gb1407)); have n5_ := Aside0.mk ((by rw [hg]; exact Nat.ne_of_lt (blk_lt (g := gb1406) (o := .cells #[.slice A0_0 l0_0.length c0_0, .slice A0_1 l0_1.length c0_1, .int .i64 a0_2] 78 (0, 0)) (by (with_reducible repeat (first | refine blk_drewN ?_ _ | refine blk_drew ?_ | refine blk_alloc ?_ _)); exact BK1406.out)) : gb1406 ≠ gb1407)); have n6_ := Aside0.mk ((by rw [hg]; exact Nat.ne_of_gt (blk_lt (g := gb1406) (o := .cells #[.slice A0_0 l0_0.length c0_0, .slice A0_1 l0_1.length c0_1, .int .i64 a0_2] 78 (0, 0)) (by (with_reducible repeat (first | refine blk_drewN ?_ _ | refine blk_drew ?_ | refine blk_alloc ?_ _)); exact BK1406.out)) : gb1407 ≠ gb1406)); clear BK1406; clear HB; have BK1406 := n0_; have HB := n1_; have BK1407 := n2_; have GW1407 := n3_; have GE1407 := n4_; have NB1406_1407 := n5_; have NB1407_1406 := n6_; clear n0_ n1_ n2_ n3_ n4_ n5_ n6_; clear hb hbox hg; have hnb34 := NB1406_1407.out; have hnc34 := NB1407_1406.out; have hcz35_0 : w33.cell? ⟨gb1406, 0, none⟩ = some (.slice A0_0 l0_0.length c0_0) := (blk_cell BK1406.out 0).trans rfl; have hcz35_1 : w33.cell? ⟨gb1406, 1, none⟩ = some (.slice A0_1 l0_1.length c0_1) := (blk_cell BK1406.out 1).trans rfl; have hcz35_2 : w33.cell? ⟨gb1406, 2, none⟩ = some (.int .i64 a0_2) := (blk_cell BK1406.out 2).trans rfl; have hfz35_0 := blk_frozen BK1406.out 0; have hfz35_1 := blk_frozen BK1406.out 1; have hfz35_2 := blk_frozen BK1406.out 2) | ((with_reducible refine gate_callee (f := 44) rfl ?_); refine goesL_ (some 12) rfl rfl Try.func44 (by kernel_rfl) rfl #[.agg #[.slice A0_0 l0_0.length c0_0, .slice A0_1 l0_1.length c0_1, .int .i64 a0_2], .int .i64 1048576] rfl (by (try simp only [List.map_toArray, List.map_cons, List.map_nil]); first | done | rfl | (simp only [List.length_drop, List.length_take]; rfl)) ?_; (with_reducible refine (laws_szStore.calls k _ _ l0_0 _ _ l0_1 a0_2 1048576 t1408 _ ?side1 ?side2 ?side3 ?side4 A3.out).mono ?_); (case side1 => repeat (first | exact (Kd.C_below HR0_0.out HB.out) | (with_reducible refine Kd.C_alloc ?_ _) | (with_reducible refine Kd.C_drewN ?_ _) | (with_reducible refine Kd.C_drew ?_))); (case side2 => exact HC0_0.out); (case side3 => repeat (first | exact (Kd.C_below HR0_1.out HB.out) | (with_reducible refine Kd.C_alloc ?_ _) | (with_reducible refine Kd.C_drewN ?_ _) | (with_reducible refine Kd.C_drew ?_))); (case side4 => exact HC0_1.out); rintro e w36 ⟨rfl, hb⟩; refine ⟨_, rfl, ?_⟩; have n0_ := Aside0.mk (blk_below (g := gb1406) (o := .cells #[.slice A0_0 l0_0.length c0_0, .slice A0_1 l0_1.length c0_1, .int .i64 a0_2] 78 (0, 0)) (by (with_reducible repeat (first | refine blk_drewN ?_ _ | refine blk_drew ?_ | refine blk_alloc ?_ _)); exact BK1406.out) hb); have n1_ := Aside0.mk (blk_below (g := gb1407) (o := .cells #[.slice A1_0 l1_0.length c1_0, .slice A1_1 l1_1.length c1_1, .int .i64 a1_2] 78 (0, 0)) (by (with_reducible repeat (first | refine blk_drewN ?_ _ | refine blk_drew ?_ | refine blk_alloc ?_ _)); exact BK1407.out) hb); have n2_ := Aside0.mk (below_step (by repeat (first | (with_reducible first | exact HB.out | apply below_alloc | apply pw_below_drewN | apply below_drew1 | refine below_set ?_ GE1406.out | refine below_set ?_ GE1407.out) | exact HB.out)) hb); clear BK1406; clear BK1407; clear HB; have BK1406 := n0_; have BK1407 := n1_; have HB := n2_; clear n0_ n1_ n2_; (try clear hb); (try clear hb2); (try clear hk); (try clear hi); have hcz37_0 : w36.cell? ⟨gb1407, 0, none⟩ = some (.slice A1_0 l1_0.length c1_0) := (blk_cell BK1407.out 0).trans rfl; have hcz37_1 : w36.cell? ⟨gb1407, 1, none⟩ = some (.slice A1_1 l1_1.length c1_1) := (blk_cell BK1407.out 1).trans rfl; have hcz37_2 : w36.cell? ⟨gb1407, 2, none⟩ = some (.int .i64 a1_2) := (blk_cell BK1407.out 2).trans rfl; have hfz37_0 := blk_frozen BK1407.out 0; have hfz37_1 := blk_frozen BK1407.out 1; have hfz37_2 := blk_frozen BK1407.out 2) | ((with_reducible refine gate_callee (f := 44) rfl ?_); refine goesL_ (some 17) rfl rfl Try.func44 (by kernel_rfl) rfl #[.agg #[.slice A1_0 l1_0.length c1_0, .slice A1_1 l1_1.length c1_1, .int .i64 a1_2], .int .i64 t1408] rfl (by (try simp only [List.map_toArray, List.map_cons, List.map_nil]); first | done | rfl | (simp only [List.length_drop, List.length_take]; rfl)) ?_; (with_reducible refine (laws_szStore.calls k _ _ l1_0 _ _ l1_1 a1_2 t1408 t1409 _ ?side1 ?side2 ?side3 ?side4 A10.out).mono ?_); (case side1 => repeat (first | exact (Kd.C_below HR1_0.out HB.out) | (with_reducible refine Kd.C_alloc ?_ _) | (with_reducible refine Kd.C_drewN ?_ _) | (with_reducible refine Kd.C_drew ?_))); (case side2 => exact HC1_0.out); (case side3 => repeat (first | exact (Kd.C_below HR1_1.out HB.out) | (with_reducible refine Kd.C_alloc ?_ _) | (with_reducible refine Kd.C_drewN ?_ _) | (with_reducible refine Kd.C_drew ?_))); (case side4 => exact HC1_1.out); rintro e w38 ⟨rfl, hb⟩; refine ⟨_, rfl, ?_⟩; have n0_ := Aside0.mk (blk_below (g := gb1406) (o := .cells #[.slice A0_0 l0_0.length c0_0, .slice A0_1 l0_1.length c0_1, .int .i64 a0_2] 78 (0, 0)) (by (with_reducible repeat (first | refine blk_drewN ?_ _ | refine blk_drew ?_ | refine blk_alloc ?_ _)); exact BK1406.out) hb); have n1_ := Aside0.mk (blk_below (g := gb1407) (o := .cells #[.slice A1_0 l1_0.length c1_0, .slice A1_1 l1_1.length c1_1, .int .i64 a1_2] 78 (0, 0)) (by (with_reducible repeat (first | refine blk_drewN ?_ _ | refine blk_drew ?_ | refine blk_alloc ?_ _)); exact BK1407.out) hb); have n2_ := Aside0.mk (below_step (by repeat (first | (with_reducible first | exact HB.out | apply below_alloc | apply pw_below_drewN | apply below_drew1 | refine below_set ?_ GE1406.out | refine below_set ?_ GE1407.out) | exact HB.out)) hb); clear BK1406; clear BK1407; clear HB; have BK1406 := n0_; have BK1407 := n1_; have HB := n2_; clear n0_ n1_ n2_; (try clear hb); (try clear hb2); (try clear hk); (try clear hi)))
            have n0_ := Aside0.mk (blk_drew BK1406.out)
            have n1_ := Aside0.mk (blk_drew BK1407.out)
            have n2_ := Aside0.mk (below_drew1 HB.out)
            clear BK1406
            clear BK1407
            clear HB
            have BK1406 := n0_
            have BK1407 := n1_
            have HB := n2_
            clear n0_ n1_ n2_
            refine start_ (n := 6) (S := fun w' => w'.cell? ⟨gb1406, 0, none⟩ = some (.slice A0_0 l0_0.length c0_0) ∧ w'.cell? ⟨gb1406, 1, none⟩ = some (.slice A0_1 l0_1.length c0_1) ∧ w'.cell? ⟨gb1406, 2, none⟩ = some (.int .i64 a0_2) ∧ w'.cell? ⟨gb1407, 0, none⟩ = some (.slice A1_0 l1_0.length c1_0) ∧ w'.cell? ⟨gb1407, 1, none⟩ = some (.slice A1_1 l1_1.length c1_1) ∧ w'.cell? ⟨gb1407, 2, none⟩ = some (.int .i64 a1_2)) (ds := []) #[false, false, false, false, false, false] (by kernel_rfl) rfl rfl ⟨(blk_cell BK1406.out 0).trans rfl, (blk_cell BK1406.out 1).trans rfl, (blk_cell BK1406.out 2).trans rfl, (blk_cell BK1407.out 0).trans rfl, (blk_cell BK1407.out 1).trans rfl, (blk_cell BK1407.out 2).trans rfl⟩ (fun hHeld => ?_)
            generalize w38.drew = w39 at BK1406 BK1407 HB hHeld ⊢
            refine take_ (i := 0) (N := some 20) (v := ?_) (a' := ?_) #[true, false, false, false, false, false] rfl rfl (by kernel_rfl) (fun _ _ _ h => h) (Or.inl ⟨by rfl, ?_⟩) hHeld ?_ ?_
            rotate_left
            · rintro w' ⟨s0, s1, s2, s3, s4, s5⟩
              go_simp
              with_reducible rfl
            rotate_left
            · simp only [Act.put, List.setIfInBounds_toArray, List.set_cons_zero, List.set_cons_succ, i64_w, i32_w]
              rfl
            refine take_ (i := 2) (N := some 22) (v := ?_) (a' := ?_) #[true, false, true, false, false, false] rfl rfl (by kernel_rfl) (fun _ _ _ h => h) (Or.inl ⟨by rfl, ?_⟩) hHeld ?_ ?_
            rotate_left
            · rintro w' ⟨s0, s1, s2, s3, s4, s5⟩
              go_simp
              with_reducible rfl
            rotate_left
            · simp only [Act.put, List.setIfInBounds_toArray, List.set_cons_zero, List.set_cons_succ, i64_w, i32_w]
              rfl
            refine one_ (i := 1) (N := some 21) #[true, true, true, false, false, false] rfl rfl (by kernel_rfl) (by decide) (fun K hK => ?_)
            refine goes_ Try.func46 (by kernel_rfl) rfl #[.agg #[.slice A0_0 l0_0.length c0_0, .slice A0_1 l0_1.length c0_1, .int .i64 a0_2]] (by rfl) rfl rfl (by (try simp only [List.map_toArray, List.map_cons, List.map_nil]); first | done | rfl | (simp only [List.length_drop, List.length_take]; rfl)) ?_
            with_reducible refine (laws_toStore.calls k _ _ l0_0 _ _ l0_1 a0_2 t1410 t1413 t1416 _ ?side1 ?side2 ?side3 ?side4 A19.out).mono ?_
            (case side1 => repeat (first | exact (Kd.C_below HR0_0.out HB.out) | (with_reducible refine Kd.C_alloc ?_ _) | (with_reducible refine Kd.C_drewN ?_ _) | (with_reducible refine Kd.C_drew ?_)))
            (case side2 => exact HC0_0.out)
            (case side3 => repeat (first | exact (Kd.C_below HR0_1.out HB.out) | (with_reducible refine Kd.C_alloc ?_ _) | (with_reducible refine Kd.C_drewN ?_ _) | (with_reducible refine Kd.C_drew ?_)))
            (case side4 => exact HC0_1.out)
            rintro e w40 ⟨v1411, v1414, rfl, ho0, ho1, hb⟩
            refine ⟨_, rfl, ?_⟩
            have n0_ := Aside0.mk (Kd.R_lower ho0 (below_size (by repeat (first | (with_reducible first | exact HB.out | apply below_alloc | apply pw_below_drewN | apply below_drew1 | refine below_set ?_ GE1406.out | refine below_set ?_ GE1407.out) | exact HB.out))))
            have n1_ := Aside0.mk (Kd.S_lower ho1 (below_size (by repeat (first | (with_reducible first | exact HB.out | apply below_alloc | apply pw_below_drewN | apply below_drew1 | refine below_set ?_ GE1406.out | refine below_set ?_ GE1407.out) | exact HB.out))))
            have n2_ := Aside0.mk (blk_below (g := gb1406) (o := .cells #[.slice A0_0 l0_0.length c0_0, .slice A0_1 l0_1.length c0_1, .int .i64 a0_2] 78 (0, 0)) (by (with_reducible repeat (first | refine blk_drewN ?_ _ | refine blk_drew ?_ | refine blk_alloc ?_ _)); exact BK1406.out) hb)
            have n3_ := Aside0.mk (blk_below (g := gb1407) (o := .cells #[.slice A1_0 l1_0.length c1_0, .slice A1_1 l1_1.length c1_1, .int .i64 a1_2] 78 (0, 0)) (by (with_reducible repeat (first | refine blk_drewN ?_ _ | refine blk_drew ?_ | refine blk_alloc ?_ _)); exact BK1407.out) hb)
            have n4_ := Aside0.mk (below_step (by repeat (first | (with_reducible first | exact HB.out | apply below_alloc | apply pw_below_drewN | apply below_drew1 | refine below_set ?_ GE1406.out | refine below_set ?_ GE1407.out) | exact HB.out)) hb)
            clear BK1406
            clear BK1407
            clear HB
            have HO1412 := n0_
            have HO1415 := n1_
            have BK1406 := n2_
            have BK1407 := n3_
            have HB := n4_
            clear n0_ n1_ n2_ n3_ n4_
            (try clear hb)
            (try clear hb2)
            (try clear hk)
            (try clear hi)
            (try clear ho0)
            (try clear ho1)
            refine hK.out _ _ ⟨(blk_cell BK1406.out 0).trans rfl, (blk_cell BK1406.out 1).trans rfl, (blk_cell BK1406.out 2).trans rfl, (blk_cell BK1407.out 0).trans rfl, (blk_cell BK1407.out 1).trans rfl, (blk_cell BK1407.out 2).trans rfl⟩ (fun hHeld => ?_)
            clear hK K
            refine norm_ (a' := ?_) ?_ ?_
            rotate_left
            · show Act.put _ (some 21) _ = _
              simp only [Act.put, List.setIfInBounds_toArray, List.set_cons_zero, List.set_cons_succ, i64_w, i32_w]
              rfl
            refine one_ (i := 3) (N := some 23) #[true, true, true, true, false, false] rfl rfl (by kernel_rfl) (by decide) (fun K hK => ?_)
            refine goes_ Try.func46 (by kernel_rfl) rfl #[.agg #[.slice A1_0 l1_0.length c1_0, .slice A1_1 l1_1.length c1_1, .int .i64 a1_2]] (by rfl) rfl rfl (by (try simp only [List.map_toArray, List.map_cons, List.map_nil]); first | done | rfl | (simp only [List.length_drop, List.length_take]; rfl)) ?_
            with_reducible refine (laws_toStore.calls k _ _ l1_0 _ _ l1_1 a1_2 t1417 t1420 t1423 _ ?side1 ?side2 ?side3 ?side4 A20.out).mono ?_
            (case side1 => repeat (first | exact (Kd.C_below HR1_0.out HB.out) | (with_reducible refine Kd.C_alloc ?_ _) | (with_reducible refine Kd.C_drewN ?_ _) | (with_reducible refine Kd.C_drew ?_)))
            (case side2 => exact HC1_0.out)
            (case side3 => repeat (first | exact (Kd.C_below HR1_1.out HB.out) | (with_reducible refine Kd.C_alloc ?_ _) | (with_reducible refine Kd.C_drewN ?_ _) | (with_reducible refine Kd.C_drew ?_)))
            (case side4 => exact HC1_1.out)
            rintro e w41 ⟨v1418, v1421, rfl, ho0, ho1, hb⟩
            refine ⟨_, rfl, ?_⟩
            have n0_ := Aside0.mk (Kd.R_elder' (by (with_reducible repeat (first | apply Kd.R_alloc | apply Kd.R_drewN | apply Kd.R_drew)); exact HO1412.out) (Kd.R_base ho0) hb)
            have n1_ := Aside0.mk (Kd.S_elder' (by (with_reducible repeat (first | apply Kd.S_alloc | apply Kd.S_drewN | apply Kd.S_drew)); exact HO1415.out) (Kd.S_base ho1) hb)
            have n2_ := Aside0.mk (Kd.R_lower (Kd.R_new' ho0 (Kd.R_lt (by (with_reducible repeat (first | apply Kd.R_alloc | apply Kd.R_drewN | apply Kd.R_drew)); exact HO1412.out))) (below_size (by repeat (first | (with_reducible first | exact HB.out | apply below_alloc | apply pw_below_drewN | apply below_drew1 | refine below_set ?_ GE1406.out | refine below_set ?_ GE1407.out) | exact HB.out))))
            have n3_ := Aside0.mk (Kd.S_lower (Kd.S_new' ho1 (Kd.S_lt (by (with_reducible repeat (first | apply Kd.S_alloc | apply Kd.S_drewN | apply Kd.S_drew)); exact HO1415.out))) (below_size (by repeat (first | (with_reducible first | exact HB.out | apply below_alloc | apply pw_below_drewN | apply below_drew1 | refine below_set ?_ GE1406.out | refine below_set ?_ GE1407.out) | exact HB.out))))
            have n4_ := Aside0.mk (blk_below (g := gb1406) (o := .cells #[.slice A0_0 l0_0.length c0_0, .slice A0_1 l0_1.length c0_1, .int .i64 a0_2] 78 (0, 0)) (by (with_reducible repeat (first | refine blk_drewN ?_ _ | refine blk_drew ?_ | refine blk_alloc ?_ _)); exact BK1406.out) hb)
            have n5_ := Aside0.mk (blk_below (g := gb1407) (o := .cells #[.slice A1_0 l1_0.length c1_0, .slice A1_1 l1_1.length c1_1, .int .i64 a1_2] 78 (0, 0)) (by (with_reducible repeat (first | refine blk_drewN ?_ _ | refine blk_drew ?_ | refine blk_alloc ?_ _)); exact BK1407.out) hb)
            have n6_ := Aside0.mk (below_step (by repeat (first | (with_reducible first | exact HB.out | apply below_alloc | apply pw_below_drewN | apply below_drew1 | refine below_set ?_ GE1406.out | refine below_set ?_ GE1407.out) | exact HB.out)) hb)
            clear HO1412
            clear HO1415
            clear BK1406
            clear BK1407
            clear HB
            have HO1412 := n0_
            have HO1415 := n1_
            have HO1419 := n2_
            have HO1422 := n3_
            have BK1406 := n4_
            have BK1407 := n5_
            have HB := n6_
            clear n0_ n1_ n2_ n3_ n4_ n5_ n6_
            (try clear hb)
            (try clear hb2)
            (try clear hk)
            (try clear hi)
            (try clear ho0)
            (try clear ho1)
            obtain ⟨Ao42, co42, eo42⟩ := Kd.R_slice HO1412.out
            (first | subst eo42 | (injection eo42 with f1_ f2_ f3_; have f4_ := f1_.symm; have f5_ := f3_.symm; clear f1_ f2_ f3_; subst f4_; subst f5_))
            obtain ⟨Ao43, co43, eo43⟩ := Kd.S_slice HO1415.out
            (first | subst eo43 | (injection eo43 with f1_ f2_ f3_; have f4_ := f1_.symm; have f5_ := f3_.symm; clear f1_ f2_ f3_; subst f4_; subst f5_))
            obtain ⟨Ao44, co44, eo44⟩ := Kd.R_slice HO1419.out
            (first | subst eo44 | (injection eo44 with f1_ f2_ f3_; have f4_ := f1_.symm; have f5_ := f3_.symm; clear f1_ f2_ f3_; subst f4_; subst f5_))
            obtain ⟨Ao45, co45, eo45⟩ := Kd.S_slice HO1422.out
            (first | subst eo45 | (injection eo45 with f1_ f2_ f3_; have f4_ := f1_.symm; have f5_ := f3_.symm; clear f1_ f2_ f3_; subst f4_; subst f5_))
            refine hK.out _ _ ⟨(blk_cell BK1406.out 0).trans rfl, (blk_cell BK1406.out 1).trans rfl, (blk_cell BK1406.out 2).trans rfl, (blk_cell BK1407.out 0).trans rfl, (blk_cell BK1407.out 1).trans rfl, (blk_cell BK1407.out 2).trans rfl⟩ (fun hHeld => ?_)
            clear hK K
            refine norm_ (a' := ?_) ?_ ?_
            rotate_left
            · show Act.put _ (some 23) _ = _
              simp only [Act.put, List.setIfInBounds_toArray, List.set_cons_zero, List.set_cons_succ, i64_w, i32_w]
              rfl
            refine one_ (i := 4) (N := some 24) #[true, true, true, true, true, false] rfl rfl (by kernel_rfl) (by decide) (fun K hK => ?_)
            refine goes_ Try.func66 (by kernel_rfl) rfl #[.agg #[.slice Ao42 t1410.length co42, .slice Ao43 t1413.length co43, .int .i64 t1416], .agg #[.slice Ao44 t1417.length co44, .slice Ao45 t1420.length co45, .int .i64 t1423]] (by rfl) rfl rfl (by (try simp only [List.map_toArray, List.map_cons, List.map_nil]); first | done | rfl | (simp only [List.length_drop, List.length_take]; rfl)) ?_
            with_reducible refine (spec_SameStore.calls k _ _ t1410 _ _ t1413 t1416 _ _ t1417 _ _ t1420 t1423 t1424 _ ?side1 ?side2 ?side3 ?side4 ?side5 ?side6 ?side7 ?side8 A21.out).mono ?_
            (case side1 => repeat (first | exact (Kd.R_reads' HO1412.out).2.2 | (with_reducible refine Kd.C_alloc ?_ _) | (with_reducible refine Kd.C_drewN ?_ _) | (with_reducible refine Kd.C_drew ?_)))
            (case side2 => exact (Kd.R_reads' HO1412.out).2.1)
            (case side3 => repeat (first | exact (Kd.S_reads' HO1415.out).2.2 | (with_reducible refine Kd.C_alloc ?_ _) | (with_reducible refine Kd.C_drewN ?_ _) | (with_reducible refine Kd.C_drew ?_)))
            (case side4 => exact (Kd.S_reads' HO1415.out).2.1)
            (case side5 => repeat (first | exact (Kd.R_reads' HO1419.out).2.2 | (with_reducible refine Kd.C_alloc ?_ _) | (with_reducible refine Kd.C_drewN ?_ _) | (with_reducible refine Kd.C_drew ?_)))
            (case side6 => exact (Kd.R_reads' HO1419.out).2.1)
            (case side7 => repeat (first | exact (Kd.S_reads' HO1422.out).2.2 | (with_reducible refine Kd.C_alloc ?_ _) | (with_reducible refine Kd.C_drewN ?_ _) | (with_reducible refine Kd.C_drew ?_)))
            (case side8 => exact (Kd.S_reads' HO1422.out).2.1)
            rintro e w46 ⟨rfl, hb⟩
            refine ⟨_, rfl, ?_⟩
            have n0_ := Aside0.mk (Kd.R_below (by (with_reducible repeat (first | apply Kd.R_alloc | apply Kd.R_drewN | apply Kd.R_drew)); exact HO1412.out) hb)
            have n1_ := Aside0.mk (Kd.S_below (by (with_reducible repeat (first | apply Kd.S_alloc | apply Kd.S_drewN | apply Kd.S_drew)); exact HO1415.out) hb)
            have n2_ := Aside0.mk (Kd.R_below (by (with_reducible repeat (first | apply Kd.R_alloc | apply Kd.R_drewN | apply Kd.R_drew)); exact HO1419.out) hb)
            have n3_ := Aside0.mk (Kd.S_below (by (with_reducible repeat (first | apply Kd.S_alloc | apply Kd.S_drewN | apply Kd.S_drew)); exact HO1422.out) hb)
            have n4_ := Aside0.mk (blk_below (g := gb1406) (o := .cells #[.slice A0_0 l0_0.length c0_0, .slice A0_1 l0_1.length c0_1, .int .i64 a0_2] 78 (0, 0)) (by (with_reducible repeat (first | refine blk_drewN ?_ _ | refine blk_drew ?_ | refine blk_alloc ?_ _)); exact BK1406.out) hb)
            have n5_ := Aside0.mk (blk_below (g := gb1407) (o := .cells #[.slice A1_0 l1_0.length c1_0, .slice A1_1 l1_1.length c1_1, .int .i64 a1_2] 78 (0, 0)) (by (with_reducible repeat (first | refine blk_drewN ?_ _ | refine blk_drew ?_ | refine blk_alloc ?_ _)); exact BK1407.out) hb)
            have n6_ := Aside0.mk (below_step (by repeat (first | (with_reducible first | exact HB.out | apply below_alloc | apply pw_below_drewN | apply below_drew1 | refine below_set ?_ GE1406.out | refine below_set ?_ GE1407.out) | exact HB.out)) hb)
            clear HO1412
            clear HO1415
            clear HO1419
            clear HO1422
            clear BK1406
            clear BK1407
            clear HB
            have HO1412 := n0_
            have HO1415 := n1_
            have HO1419 := n2_
            have HO1422 := n3_
            have BK1406 := n4_
            have BK1407 := n5_
            have HB := n6_
            clear n0_ n1_ n2_ n3_ n4_ n5_ n6_
            (try clear hb)
            (try clear hb2)
            (try clear hk)
            (try clear hi)
            refine hK.out _ _ ⟨(blk_cell BK1406.out 0).trans rfl, (blk_cell BK1406.out 1).trans rfl, (blk_cell BK1406.out 2).trans rfl, (blk_cell BK1407.out 0).trans rfl, (blk_cell BK1407.out 1).trans rfl, (blk_cell BK1407.out 2).trans rfl⟩ (fun hHeld => ?_)
            clear hK K
            refine norm_ (a' := ?_) ?_ ?_
            rotate_left
            · show Act.put _ (some 24) _ = _
              simp only [Act.put, List.setIfInBounds_toArray, List.set_cons_zero, List.set_cons_succ, i64_w, i32_w]
              rfl
            refine pure_ (i := 5) (N := some 6) (v := ?_) (a' := ?_) #[true, true, true, true, true, true] rfl rfl (by kernel_rfl) (fun _ _ _ h => h) (Or.inl ⟨by rfl, ?_⟩) ?_ ?_
            rotate_left
            · intro w'
              go_simp
              with_reducible rfl
            rotate_left
            · simp only [Act.put, List.setIfInBounds_toArray, List.set_cons_zero, List.set_cons_succ, i64_w, i32_w]
              rfl
            refine done_ (by kernel_rfl) ?_
            have hcz47_0 : w46.cell? ⟨gb1406, 0, none⟩ = some (.slice A0_0 l0_0.length c0_0) := (blk_cell BK1406.out 0).trans rfl
            have hcz47_1 : w46.cell? ⟨gb1406, 1, none⟩ = some (.slice A0_1 l0_1.length c0_1) := (blk_cell BK1406.out 1).trans rfl
            have hcz47_2 : w46.cell? ⟨gb1406, 2, none⟩ = some (.int .i64 a0_2) := (blk_cell BK1406.out 2).trans rfl
            have hfz47_0 := blk_frozen BK1406.out 0
            have hfz47_1 := blk_frozen BK1406.out 1
            have hfz47_2 := blk_frozen BK1406.out 2
            try go_wp2_with (first | ((with_reducible refine gate_callee (f := 46) rfl ?_); refine goesL_ (some 26) rfl rfl Try.func46 (by kernel_rfl) rfl #[.agg #[.slice A0_0 l0_0.length c0_0, .slice A0_1 l0_1.length c0_1, .int .i64 a0_2]] rfl (by (try simp only [List.map_toArray, List.map_cons, List.map_nil]); first | done | rfl | (simp only [List.length_drop, List.length_take]; rfl)) ?_; (with_reducible refine (laws_toStore.calls k _ _ l0_0 _ _ l0_1 a0_2 t1425 t1428 t1431 _ ?side1 ?side2 ?side3 ?side4 A22.out).mono ?_); (case side1 => repeat (first | exact (Kd.C_below HR0_0.out HB.out) | (with_reducible refine Kd.C_alloc ?_ _) | (with_reducible refine Kd.C_drewN ?_ _) | (with_reducible refine Kd.C_drew ?_))); (case side2 => exact HC0_0.out); (case side3 => repeat (first | exact (Kd.C_below HR0_1.out HB.out) | (with_reducible refine Kd.C_alloc ?_ _) | (with_reducible refine Kd.C_drewN ?_ _) | (with_reducible refine Kd.C_drew ?_))); (case side4 => exact HC0_1.out); rintro e w48 ⟨v1426, v1429, rfl, ho0, ho1, hb⟩; refine ⟨_, rfl, ?_⟩; have n0_ := Aside0.mk (Kd.R_elder' (by (with_reducible repeat (first | apply Kd.R_alloc | apply Kd.R_drewN | apply Kd.R_drew)); exact HO1412.out) (Kd.R_base ho0) hb); have n1_ := Aside0.mk (Kd.S_elder' (by (with_reducible repeat (first | apply Kd.S_alloc | apply Kd.S_drewN | apply Kd.S_drew)); exact HO1415.out) (Kd.S_base ho1) hb); have n2_ := Aside0.mk (Kd.R_elder' (by (with_reducible repeat (first | apply Kd.R_alloc | apply Kd.R_drewN | apply Kd.R_drew)); exact HO1419.out) (Kd.R_base ho0) hb); have n3_ := Aside0.mk (Kd.S_elder' (by (with_reducible repeat (first | apply Kd.S_alloc | apply Kd.S_drewN | apply Kd.S_drew)); exact HO1422.out) (Kd.S_base ho1) hb); have n4_ := Aside0.mk (Kd.R_lower (Kd.R_new' (Kd.R_new' ho0 (Kd.R_lt (by (with_reducible repeat (first | apply Kd.R_alloc | apply Kd.R_drewN | apply Kd.R_drew)); exact HO1412.out))) (Kd.R_lt (by (with_reducible repeat (first | apply Kd.R_alloc | apply Kd.R_drewN | apply Kd.R_drew)); exact HO1419.out))) (below_size (by repeat (first | (with_reducible first | exact HB.out | apply below_alloc | apply pw_below_drewN | apply below_drew1 | refine below_set ?_ GE1406.out | refine below_set ?_ GE1407.out) | exact HB.out)))); have n5_ := Aside0.mk (Kd.S_lower (Kd.S_new' (Kd.S_new' ho1 (Kd.S_lt (by (with_reducible repeat (first | apply Kd.S_alloc | apply Kd.S_drewN | apply Kd.S_drew)); exact HO1415.out))) (Kd.S_lt (by (with_reducible repeat (first | apply Kd.S_alloc | apply Kd.S_drewN | apply Kd.S_drew)); exact HO1422.out))) (below_size (by repeat (first | (with_reducible first | exact HB.out | apply below_alloc | apply pw_below_drewN | apply below_drew1 | refine below_set ?_ GE1406.out | refine below_set ?_ GE1407.out) | exact HB.out)))); have n6_ := Aside0.mk (blk_below (g := gb1406) (o := .cells #[.slice A0_0 l0_0.length c0_0, .slice A0_1 l0_1.length c0_1, .int .i64 a0_2] 78 (0, 0)) (by (with_reducible repeat (first | refine blk_drewN ?_ _ | refine blk_drew ?_ | refine blk_alloc ?_ _)); exact BK1406.out) hb); have n7_ := Aside0.mk (blk_below (g := gb1407) (o := .cells #[.slice A1_0 l1_0.length c1_0, .slice A1_1 l1_1.length c1_1, .int .i64 a1_2] 78 (0, 0)) (by (with_reducible repeat (first | refine blk_drewN ?_ _ | refine blk_drew ?_ | refine blk_alloc ?_ _)); exact BK1407.out) hb); have n8_ := Aside0.mk (below_step (by repeat (first | (with_reducible first | exact HB.out | apply below_alloc | apply pw_below_drewN | apply below_drew1 | refine below_set ?_ GE1406.out | refine below_set ?_ GE1407.out) | exact HB.out)) hb); clear HO1412; clear HO1415; clear HO1419; clear HO1422; clear BK1406; clear BK1407; clear HB; have HO1412 := n0_; have HO1415 := n1_; have HO1419 := n2_; have HO1422 := n3_; have HO1427 := n4_; have HO1430 := n5_; have BK1406 := n6_; have BK1407 := n7_; have HB := n8_; clear n0_ n1_ n2_ n3_ n4_ n5_ n6_ n7_ n8_; (try clear hb); (try clear hb2); (try clear hk); (try clear hi); (try clear ho0); (try clear ho1)) | ((with_reducible refine gate_dst (N := 7) rfl ?_); refine box_event ?hg (N := 7) ?hd (cs := #[.slice none 0 0, .slice none 0 0, .int .i64 0]) (t := 83) ?hr ?_; (case hd => rfl); (case hg => rfl); (case hr => first | (go_simp; done) | (go_simp; rfl)); intro gb1432 hg w49 hbox hb; have n0_ := Aside0.mk (Kd.R_below (by (with_reducible repeat (first | apply Kd.R_alloc | apply Kd.R_drewN | apply Kd.R_drew)); exact HO1412.out) hb); have n1_ := Aside0.mk (Kd.S_below (by (with_reducible repeat (first | apply Kd.S_alloc | apply Kd.S_drewN | apply Kd.S_drew)); exact HO1415.out) hb); have n2_ := Aside0.mk (Kd.R_below (by (with_reducible repeat (first | apply Kd.R_alloc | apply Kd.R_drewN | apply Kd.R_drew)); exact HO1419.out) hb); have n3_ := Aside0.mk (Kd.S_below (by (with_reducible repeat (first | apply Kd.S_alloc | apply Kd.S_drewN | apply Kd.S_drew)); exact HO1422.out) hb); have n4_ := Aside0.mk (Kd.R_below (by (with_reducible repeat (first | apply Kd.R_alloc | apply Kd.R_drewN | apply Kd.R_drew)); exact HO1427.out) hb); have n5_ := Aside0.mk (Kd.S_below (by (with_reducible repeat (first | apply Kd.S_alloc | apply Kd.S_drewN | apply Kd.S_drew)); exact HO1430.out) hb); have n6_ := Aside0.mk (blk_below (g := gb1406) (o := .cells #[.slice A0_0 l0_0.length c0_0, .slice A0_1 l0_1.length c0_1, .int .i64 a0_2] 78 (0, 0)) (by (with_reducible repeat (first | refine blk_drewN ?_ _ | refine blk_drew ?_ | refine blk_alloc ?_ _)); exact BK1406.out) hb); have n7_ := Aside0.mk (blk_below (g := gb1407) (o := .cells #[.slice A1_0 l1_0.length c1_0, .slice A1_1 l1_1.length c1_1, .int .i64 a1_2] 78 (0, 0)) (by (with_reducible repeat (first | refine blk_drewN ?_ _ | refine blk_drew ?_ | refine blk_alloc ?_ _)); exact BK1407.out) hb); have n8_ := Aside0.mk (below_step (by repeat (first | (with_reducible first | exact HB.out | apply below_alloc | apply pw_below_drewN | apply below_drew1 | refine below_set ?_ GE1406.out | refine below_set ?_ GE1407.out) | exact HB.out)) hb); have n9_ := Aside0.mk (hbox); have n10_ := Aside0.mk ((by rw [hg]; exact (below_size (by repeat (first | (with_reducible first | exact HB.out | apply below_alloc | apply pw_below_drewN | apply below_drew1 | refine below_set ?_ GE1406.out | refine below_set ?_ GE1407.out) | exact HB.out))) : w.heap.size ≤ gb1432)); have n11_ := Aside0.mk ((by rw [hg]; exact (below_size (by repeat (first | (with_reducible first | exact HB.out | apply below_alloc | apply pw_below_drewN | apply below_drew1 | refine below_set ?_ GE1406.out | refine below_set ?_ GE1407.out) | exact HB.out))) : w.heap.size ≤ gb1432)); have n12_ := Aside0.mk ((by rw [hg]; exact Nat.ne_of_lt (blk_lt (g := gb1406) (o := .cells #[.slice A0_0 l0_0.length c0_0, .slice A0_1 l0_1.length c0_1, .int .i64 a0_2] 78 (0, 0)) (by (with_reducible repeat (first | refine blk_drewN ?_ _ | refine blk_drew ?_ | refine blk_alloc ?_ _)); exact BK1406.out)) : gb1406 ≠ gb1432)); have n13_ := Aside0.mk ((by rw [hg]; exact Nat.ne_of_gt (blk_lt (g := gb1406) (o := .cells #[.slice A0_0 l0_0.length c0_0, .slice A0_1 l0_1.length c0_1, .int .i64 a0_2] 78 (0, 0)) (by (with_reducible repeat (first | refine blk_drewN ?_ _ | refine blk_drew ?_ | refine blk_alloc ?_ _)); exact BK1406.out)) : gb1432 ≠ gb1406)); have n14_ := Aside0.mk ((by rw [hg]; exact Nat.ne_of_lt (blk_lt (g := gb1407) (o := .cells #[.slice A1_0 l1_0.length c1_0, .slice A1_1 l1_1.length c1_1, .int .i64 a1_2] 78 (0, 0)) (by (with_reducible repeat (first | refine blk_drewN ?_ _ | refine blk_drew ?_ | refine blk_alloc ?_ _)); exact BK1407.out)) : gb1407 ≠ gb1432)); have n15_ := Aside0.mk ((by rw [hg]; exact Nat.ne_of_gt (blk_lt (g := gb1407) (o := .cells #[.slice A1_0 l1_0.length c1_0, .slice A1_1 l1_1.length c1_1, .int .i64 a1_2] 78 (0, 0)) (by (with_reducible repeat (first | refine blk_drewN ?_ _ | refine blk_drew ?_ | refine blk_alloc ?_ _)); exact BK1407.out)) : gb1432 ≠ gb1407)); clear HO1412; clear HO1415; clear HO1419; clear HO1422; clear HO1427; clear HO1430; clear BK1406; clear BK1407; clear HB; have HO1412 := n0_; have HO1415 := n1_; have HO1419 := n2_; have HO1422 := n3_; have HO1427 := n4_; have HO1430 := n5_; have BK1406 := n6_; have BK1407 := n7_; have HB := n8_; have BK1432 := n9_; have GW1432 := n10_; have GE1432 := n11_; have NB1406_1432 := n12_; have NB1432_1406 := n13_; have NB1407_1432 := n14_; have NB1432_1407 := n15_; clear n0_ n1_ n2_ n3_ n4_ n5_ n6_ n7_ n8_ n9_ n10_ n11_ n12_ n13_ n14_ n15_; clear hb hbox hg; obtain ⟨Ao50, co50, eo50⟩ := Kd.R_slice HO1427.out; subst eo50; have hnb51 := NB1432_1406.out; have hnc51 := NB1406_1432.out; have hnb52 := NB1432_1407.out; have hnc52 := NB1407_1432.out; have hcz53_0 : w49.cell? ⟨gb1432, 0, none⟩ = some (.slice none 0 0) := (blk_cell BK1432.out 0).trans rfl; have hcz53_1 : w49.cell? ⟨gb1432, 1, none⟩ = some (.slice none 0 0) := (blk_cell BK1432.out 1).trans rfl; have hcz53_2 : w49.cell? ⟨gb1432, 2, none⟩ = some (.int .i64 0) := (blk_cell BK1432.out 2).trans rfl; have hfz53_0 := blk_frozen BK1432.out 0; have hfz53_1 := blk_frozen BK1432.out 1; have hfz53_2 := blk_frozen BK1432.out 2; obtain ⟨Ao54, co54, eo54⟩ := Kd.S_slice HO1430.out; subst eo54; have hcz55_0 : w49.cell? ⟨gb1407, 0, none⟩ = some (.slice A1_0 l1_0.length c1_0) := (blk_cell BK1407.out 0).trans rfl; have hcz55_1 : w49.cell? ⟨gb1407, 1, none⟩ = some (.slice A1_1 l1_1.length c1_1) := (blk_cell BK1407.out 1).trans rfl; have hcz55_2 : w49.cell? ⟨gb1407, 2, none⟩ = some (.int .i64 a1_2) := (blk_cell BK1407.out 2).trans rfl; have hfz55_0 := blk_frozen BK1407.out 0; have hfz55_1 := blk_frozen BK1407.out 1; have hfz55_2 := blk_frozen BK1407.out 2) | ((with_reducible refine gate_callee (f := 46) rfl ?_); refine goesL_ (some 28) rfl rfl Try.func46 (by kernel_rfl) rfl #[.agg #[.slice A1_0 l1_0.length c1_0, .slice A1_1 l1_1.length c1_1, .int .i64 a1_2]] rfl (by (try simp only [List.map_toArray, List.map_cons, List.map_nil]); first | done | rfl | (simp only [List.length_drop, List.length_take]; rfl)) ?_; (with_reducible refine (laws_toStore.calls k _ _ l1_0 _ _ l1_1 a1_2 t1433 t1436 t1439 _ ?side1 ?side2 ?side3 ?side4 A23.out).mono ?_); (case side1 => exact Kd.C_below HR1_0.out (by repeat (first | (with_reducible first | exact HB.out | apply below_alloc | apply pw_below_drewN | apply below_drew1 | refine below_set ?_ GE1406.out | refine below_set ?_ GE1407.out | refine below_set ?_ GE1432.out) | exact HB.out))); (case side2 => exact HC1_0.out); (case side3 => exact Kd.C_below HR1_1.out (by repeat (first | (with_reducible first | exact HB.out | apply below_alloc | apply pw_below_drewN | apply below_drew1 | refine below_set ?_ GE1406.out | refine below_set ?_ GE1407.out | refine below_set ?_ GE1432.out) | exact HB.out))); (case side4 => exact HC1_1.out); rintro e w56 ⟨v1434, v1437, rfl, ho0, ho1, hb⟩; refine ⟨_, rfl, ?_⟩; have n0_ := Aside0.mk (Kd.R_elder' (by (with_reducible repeat (first | apply Kd.R_alloc | apply Kd.R_drewN | apply Kd.R_drew)); exact (Kd.R_mono (Kd.R_far (p := ⟨gb1432, 2, none⟩) (Kd.R_far (p := ⟨gb1432, 1, none⟩) (Kd.R_far (p := ⟨gb1432, 0, none⟩) (Kd.R_types HO1412.out BK1432.out (by decide)) (fun _ hk => hk.2) (.slice Ao50 t1425.length co50)) (fun _ hk => hk.2) (.slice Ao54 t1428.length co54)) (fun _ hk => hk.2) (.int .i64 t1431)) (fun _ h_ => h_.1))) (Kd.R_base ho0) hb); have n1_ := Aside0.mk (Kd.S_elder' (by (with_reducible repeat (first | apply Kd.S_alloc | apply Kd.S_drewN | apply Kd.S_drew)); exact (Kd.S_mono (Kd.S_far (p := ⟨gb1432, 2, none⟩) (Kd.S_far (p := ⟨gb1432, 1, none⟩) (Kd.S_far (p := ⟨gb1432, 0, none⟩) (Kd.S_types HO1415.out BK1432.out (by decide)) (fun _ hk => hk.2) (.slice Ao50 t1425.length co50)) (fun _ hk => hk.2) (.slice Ao54 t1428.length co54)) (fun _ hk => hk.2) (.int .i64 t1431)) (fun _ h_ => h_.1))) (Kd.S_base ho1) hb); have n2_ := Aside0.mk (Kd.R_elder' (by (with_reducible repeat (first | apply Kd.R_alloc | apply Kd.R_drewN | apply Kd.R_drew)); exact (Kd.R_mono (Kd.R_far (p := ⟨gb1432, 2, none⟩) (Kd.R_far (p := ⟨gb1432, 1, none⟩) (Kd.R_far (p := ⟨gb1432, 0, none⟩) (Kd.R_types HO1419.out BK1432.out (by decide)) (fun _ hk => hk.2) (.slice Ao50 t1425.length co50)) (fun _ hk => hk.2) (.slice Ao54 t1428.length co54)) (fun _ hk => hk.2) (.int .i64 t1431)) (fun _ h_ => h_.1))) (Kd.R_base ho0) hb); have n3_ := Aside0.mk (Kd.S_elder' (by (with_reducible repeat (first | apply Kd.S_alloc | apply Kd.S_drewN | apply Kd.S_drew)); exact (Kd.S_mono (Kd.S_far (p := ⟨gb1432, 2, none⟩) (Kd.S_far (p := ⟨gb1432, 1, none⟩) (Kd.S_far (p := ⟨gb1432, 0, none⟩) (Kd.S_types HO1422.out BK1432.out (by decide)) (fun _ hk => hk.2) (.slice Ao50 t1425.length co50)) (fun _ hk => hk.2) (.slice Ao54 t1428.length co54)) (fun _ hk => hk.2) (.int .i64 t1431)) (fun _ h_ => h_.1))) (Kd.S_base ho1) hb); have n4_ := Aside0.mk (Kd.R_elder' (by (with_reducible repeat (first | apply Kd.R_alloc | apply Kd.R_drewN | apply Kd.R_drew)); exact (Kd.R_mono (Kd.R_far (p := ⟨gb1432, 2, none⟩) (Kd.R_far (p := ⟨gb1432, 1, none⟩) (Kd.R_far (p := ⟨gb1432, 0, none⟩) (Kd.R_types HO1427.out BK1432.out (by decide)) (fun _ hk => hk.2) (.slice Ao50 t1425.length co50)) (fun _ hk => hk.2) (.slice Ao54 t1428.length co54)) (fun _ hk => hk.2) (.int .i64 t1431)) (fun _ h_ => h_.1))) (Kd.R_base ho0) hb); have n5_ := Aside0.mk (Kd.S_elder' (by (with_reducible repeat (first | apply Kd.S_alloc | apply Kd.S_drewN | apply Kd.S_drew)); exact (Kd.S_mono (Kd.S_far (p := ⟨gb1432, 2, none⟩) (Kd.S_far (p := ⟨gb1432, 1, none⟩) (Kd.S_far (p := ⟨gb1432, 0, none⟩) (Kd.S_types HO1430.out BK1432.out (by decide)) (fun _ hk => hk.2) (.slice Ao50 t1425.length co50)) (fun _ hk => hk.2) (.slice Ao54 t1428.length co54)) (fun _ hk => hk.2) (.int .i64 t1431)) (fun _ h_ => h_.1))) (Kd.S_base ho1) hb); have n6_ := Aside0.mk (Kd.R_lower (Kd.R_new' (Kd.R_new' (Kd.R_new' ho0 (Kd.R_lt (by (with_reducible repeat (first | apply Kd.R_alloc | apply Kd.R_drewN | apply Kd.R_drew)); exact (Kd.R_mono (Kd.R_far (p := ⟨gb1432, 2, none⟩) (Kd.R_far (p := ⟨gb1432, 1, none⟩) (Kd.R_far (p := ⟨gb1432, 0, none⟩) (Kd.R_types HO1412.out BK1432.out (by decide)) (fun _ hk => hk.2) (.slice Ao50 t1425.length co50)) (fun _ hk => hk.2) (.slice Ao54 t1428.length co54)) (fun _ hk => hk.2) (.int .i64 t1431)) (fun _ h_ => h_.1))))) (Kd.R_lt (by (with_reducible repeat (first | apply Kd.R_alloc | apply Kd.R_drewN | apply Kd.R_drew)); exact (Kd.R_mono (Kd.R_far (p := ⟨gb1432, 2, none⟩) (Kd.R_far (p := ⟨gb1432, 1, none⟩) (Kd.R_far (p := ⟨gb1432, 0, none⟩) (Kd.R_types HO1419.out BK1432.out (by decide)) (fun _ hk => hk.2) (.slice Ao50 t1425.length co50)) (fun _ hk => hk.2) (.slice Ao54 t1428.length co54)) (fun _ hk => hk.2) (.int .i64 t1431)) (fun _ h_ => h_.1))))) (Kd.R_lt (by (with_reducible repeat (first | apply Kd.R_alloc | apply Kd.R_drewN | apply Kd.R_drew)); exact (Kd.R_mono (Kd.R_far (p := ⟨gb1432, 2, none⟩) (Kd.R_far (p := ⟨gb1432, 1, none⟩) (Kd.R_far (p := ⟨gb1432, 0, none⟩) (Kd.R_types HO1427.out BK1432.out (by decide)) (fun _ hk => hk.2) (.slice Ao50 t1425.length co50)) (fun _ hk => hk.2) (.slice Ao54 t1428.length co54)) (fun _ hk => hk.2) (.int .i64 t1431)) (fun _ h_ => h_.1))))) (below_size (by repeat (first | (with_reducible first | exact HB.out | apply below_alloc | apply pw_below_drewN | apply below_drew1 | refine below_set ?_ GE1406.out | refine below_set ?_ GE1407.out | refine below_set ?_ GE1432.out) | exact HB.out)))); have n7_ := Aside0.mk (Kd.S_lower (Kd.S_new' (Kd.S_new' (Kd.S_new' ho1 (Kd.S_lt (by (with_reducible repeat (first | apply Kd.S_alloc | apply Kd.S_drewN | apply Kd.S_drew)); exact (Kd.S_mono (Kd.S_far (p := ⟨gb1432, 2, none⟩) (Kd.S_far (p := ⟨gb1432, 1, none⟩) (Kd.S_far (p := ⟨gb1432, 0, none⟩) (Kd.S_types HO1415.out BK1432.out (by decide)) (fun _ hk => hk.2) (.slice Ao50 t1425.length co50)) (fun _ hk => hk.2) (.slice Ao54 t1428.length co54)) (fun _ hk => hk.2) (.int .i64 t1431)) (fun _ h_ => h_.1))))) (Kd.S_lt (by (with_reducible repeat (first | apply Kd.S_alloc | apply Kd.S_drewN | apply Kd.S_drew)); exact (Kd.S_mono (Kd.S_far (p := ⟨gb1432, 2, none⟩) (Kd.S_far (p := ⟨gb1432, 1, none⟩) (Kd.S_far (p := ⟨gb1432, 0, none⟩) (Kd.S_types HO1422.out BK1432.out (by decide)) (fun _ hk => hk.2) (.slice Ao50 t1425.length co50)) (fun _ hk => hk.2) (.slice Ao54 t1428.length co54)) (fun _ hk => hk.2) (.int .i64 t1431)) (fun _ h_ => h_.1))))) (Kd.S_lt (by (with_reducible repeat (first | apply Kd.S_alloc | apply Kd.S_drewN | apply Kd.S_drew)); exact (Kd.S_mono (Kd.S_far (p := ⟨gb1432, 2, none⟩) (Kd.S_far (p := ⟨gb1432, 1, none⟩) (Kd.S_far (p := ⟨gb1432, 0, none⟩) (Kd.S_types HO1430.out BK1432.out (by decide)) (fun _ hk => hk.2) (.slice Ao50 t1425.length co50)) (fun _ hk => hk.2) (.slice Ao54 t1428.length co54)) (fun _ hk => hk.2) (.int .i64 t1431)) (fun _ h_ => h_.1))))) (below_size (by repeat (first | (with_reducible first | exact HB.out | apply below_alloc | apply pw_below_drewN | apply below_drew1 | refine below_set ?_ GE1406.out | refine below_set ?_ GE1407.out | refine below_set ?_ GE1432.out) | exact HB.out)))); have n8_ := Aside0.mk (blk_below (g := gb1406) (o := .cells #[.slice A0_0 l0_0.length c0_0, .slice A0_1 l0_1.length c0_1, .int .i64 a0_2] 78 (0, 0)) (by (with_reducible repeat (first | refine blk_drewN ?_ _ | refine blk_drew ?_ | refine blk_alloc ?_ _)); refine blk_far ?_ NB1406_1432.out _; (with_reducible repeat (first | refine blk_drewN ?_ _ | refine blk_drew ?_ | refine blk_alloc ?_ _)); refine blk_far ?_ NB1406_1432.out _; (with_reducible repeat (first | refine blk_drewN ?_ _ | refine blk_drew ?_ | refine blk_alloc ?_ _)); refine blk_far ?_ NB1406_1432.out _; (with_reducible repeat (first | refine blk_drewN ?_ _ | refine blk_drew ?_ | refine blk_alloc ?_ _)); exact BK1406.out) hb); have n9_ := Aside0.mk (blk_below (g := gb1407) (o := .cells #[.slice A1_0 l1_0.length c1_0, .slice A1_1 l1_1.length c1_1, .int .i64 a1_2] 78 (0, 0)) (by (with_reducible repeat (first | refine blk_drewN ?_ _ | refine blk_drew ?_ | refine blk_alloc ?_ _)); refine blk_far ?_ NB1407_1432.out _; (with_reducible repeat (first | refine blk_drewN ?_ _ | refine blk_drew ?_ | refine blk_alloc ?_ _)); refine blk_far ?_ NB1407_1432.out _; (with_reducible repeat (first | refine blk_drewN ?_ _ | refine blk_drew ?_ | refine blk_alloc ?_ _)); refine blk_far ?_ NB1407_1432.out _; (with_reducible repeat (first | refine blk_drewN ?_ _ | refine blk_drew ?_ | refine blk_alloc ?_ _)); exact BK1407.out) hb); have n10_ := Aside0.mk (blk_below (g := gb1432) (o := .cells #[.slice Ao50 t1425.length co50, .slice Ao54 t1428.length co54, .int .i64 t1431] 83 (0, 0)) (by (with_reducible repeat (first | refine blk_drewN ?_ _ | refine blk_drew ?_ | refine blk_alloc ?_ _)); refine blk_put (cs := #[.slice Ao50 t1425.length co50, .slice Ao54 t1428.length co54, .int .i64 0]) ?_ 2 _ rfl; (with_reducible repeat (first | refine blk_drewN ?_ _ | refine blk_drew ?_ | refine blk_alloc ?_ _)); refine blk_put (cs := #[.slice Ao50 t1425.length co50, .slice none 0 0, .int .i64 0]) ?_ 1 _ rfl; (with_reducible repeat (first | refine blk_drewN ?_ _ | refine blk_drew ?_ | refine blk_alloc ?_ _)); refine blk_put (cs := #[.slice none 0 0, .slice none 0 0, .int .i64 0]) ?_ 0 _ rfl; (with_reducible repeat (first | refine blk_drewN ?_ _ | refine blk_drew ?_ | refine blk_alloc ?_ _)); exact BK1432.out) hb); have n11_ := Aside0.mk (below_step (by repeat (first | (with_reducible first | exact HB.out | apply below_alloc | apply pw_below_drewN | apply below_drew1 | refine below_set ?_ GE1406.out | refine below_set ?_ GE1407.out | refine below_set ?_ GE1432.out) | exact HB.out)) hb); clear HO1412; clear HO1415; clear HO1419; clear HO1422; clear HO1427; clear HO1430; clear BK1406; clear BK1407; clear BK1432; clear HB; have HO1412 := n0_; have HO1415 := n1_; have HO1419 := n2_; have HO1422 := n3_; have HO1427 := n4_; have HO1430 := n5_; have HO1435 := n6_; have HO1438 := n7_; have BK1406 := n8_; have BK1407 := n9_; have BK1432 := n10_; have HB := n11_; clear n0_ n1_ n2_ n3_ n4_ n5_ n6_ n7_ n8_ n9_ n10_ n11_; (try clear hb); (try clear hb2); (try clear hk); (try clear hi); (try clear ho0); (try clear ho1)) | ((with_reducible refine gate_dst (N := 8) rfl ?_); refine box_event ?hg (N := 8) ?hd (cs := #[.slice none 0 0, .slice none 0 0, .int .i64 0]) (t := 83) ?hr ?_; (case hd => rfl); (case hg => rfl); (case hr => first | (go_simp; done) | (go_simp; rfl)); intro gb1440 hg w57 hbox hb; have n0_ := Aside0.mk (Kd.R_below (by (with_reducible repeat (first | apply Kd.R_alloc | apply Kd.R_drewN | apply Kd.R_drew)); exact HO1412.out) hb); have n1_ := Aside0.mk (Kd.S_below (by (with_reducible repeat (first | apply Kd.S_alloc | apply Kd.S_drewN | apply Kd.S_drew)); exact HO1415.out) hb); have n2_ := Aside0.mk (Kd.R_below (by (with_reducible repeat (first | apply Kd.R_alloc | apply Kd.R_drewN | apply Kd.R_drew)); exact HO1419.out) hb); have n3_ := Aside0.mk (Kd.S_below (by (with_reducible repeat (first | apply Kd.S_alloc | apply Kd.S_drewN | apply Kd.S_drew)); exact HO1422.out) hb); have n4_ := Aside0.mk (Kd.R_below (by (with_reducible repeat (first | apply Kd.R_alloc | apply Kd.R_drewN | apply Kd.R_drew)); exact HO1427.out) hb); have n5_ := Aside0.mk (Kd.S_below (by (with_reducible repeat (first | apply Kd.S_alloc | apply Kd.S_drewN | apply Kd.S_drew)); exact HO1430.out) hb); have n6_ := Aside0.mk (Kd.R_below (by (with_reducible repeat (first | apply Kd.R_alloc | apply Kd.R_drewN | apply Kd.R_drew)); exact HO1435.out) hb); have n7_ := Aside0.mk (Kd.S_below (by (with_reducible repeat (first | apply Kd.S_alloc | apply Kd.S_drewN | apply Kd.S_drew)); exact HO1438.out) hb); have n8_ := Aside0.mk (blk_below (g := gb1406) (o := .cells #[.slice A0_0 l0_0.length c0_0, .slice A0_1 l0_1.length c0_1, .int .i64 a0_2] 78 (0, 0)) (by (with_reducible repeat (first | refine blk_drewN ?_ _ | refine blk_drew ?_ | refine blk_alloc ?_ _)); exact BK1406.out) hb); have n9_ := Aside0.mk (blk_below (g := gb1407) (o := .cells #[.slice A1_0 l1_0.length c1_0, .slice A1_1 l1_1.length c1_1, .int .i64 a1_2] 78 (0, 0)) (by (with_reducible repeat (first | refine blk_drewN ?_ _ | refine blk_drew ?_ | refine blk_alloc ?_ _)); exact BK1407.out) hb); have n10_ := Aside0.mk (blk_below (g := gb1432) (o := .cells #[.slice Ao50 t1425.length co50, .slice Ao54 t1428.length co54, .int .i64 t1431] 83 (0, 0)) (by (with_reducible repeat (first | refine blk_drewN ?_ _ | refine blk_drew ?_ | refine blk_alloc ?_ _)); exact BK1432.out) hb); have n11_ := Aside0.mk (below_step (by repeat (first | (with_reducible first | exact HB.out | apply below_alloc | apply pw_below_drewN | apply below_drew1 | refine below_set ?_ GE1406.out | refine below_set ?_ GE1407.out | refine below_set ?_ GE1432.out) | exact HB.out)) hb); have n12_ := Aside0.mk (hbox); have n13_ := Aside0.mk ((by rw [hg]; exact (below_size (by repeat (first | (with_reducible first | exact HB.out | apply below_alloc | apply pw_below_drewN | apply below_drew1 | refine below_set ?_ GE1406.out | refine below_set ?_ GE1407.out | refine below_set ?_ GE1432.out) | exact HB.out))) : w.heap.size ≤ gb1440)); have n14_ := Aside0.mk ((by rw [hg]; exact (below_size (by repeat (first | (with_reducible first | exact HB.out | apply below_alloc | apply pw_below_drewN | apply below_drew1 | refine below_set ?_ GE1406.out | refine below_set ?_ GE1407.out | refine below_set ?_ GE1432.out) | exact HB.out))) : w.heap.size ≤ gb1440)); have n15_ := Aside0.mk ((by rw [hg]; exact Nat.ne_of_lt (blk_lt (g := gb1406) (o := .cells #[.slice A0_0 l0_0.length c0_0, .slice A0_1 l0_1.length c0_1, .int .i64 a0_2] 78 (0, 0)) (by (with_reducible repeat (first | refine blk_drewN ?_ _ | refine blk_drew ?_ | refine blk_alloc ?_ _)); exact BK1406.out)) : gb1406 ≠ gb1440)); have n16_ := Aside0.mk ((by rw [hg]; exact Nat.ne_of_gt (blk_lt (g := gb1406) (o := .cells #[.slice A0_0 l0_0.length c0_0, .slice A0_1 l0_1.length c0_1, .int .i64 a0_2] 78 (0, 0)) (by (with_reducible repeat (first | refine blk_drewN ?_ _ | refine blk_drew ?_ | refine blk_alloc ?_ _)); exact BK1406.out)) : gb1440 ≠ gb1406)); have n17_ := Aside0.mk ((by rw [hg]; exact Nat.ne_of_lt (blk_lt (g := gb1407) (o := .cells #[.slice A1_0 l1_0.length c1_0, .slice A1_1 l1_1.length c1_1, .int .i64 a1_2] 78 (0, 0)) (by (with_reducible repeat (first | refine blk_drewN ?_ _ | refine blk_drew ?_ | refine blk_alloc ?_ _)); exact BK1407.out)) : gb1407 ≠ gb1440)); have n18_ := Aside0.mk ((by rw [hg]; exact Nat.ne_of_gt (blk_lt (g := gb1407) (o := .cells #[.slice A1_0 l1_0.length c1_0, .slice A1_1 l1_1.length c1_1, .int .i64 a1_2] 78 (0, 0)) (by (with_reducible repeat (first | refine blk_drewN ?_ _ | refine blk_drew ?_ | refine blk_alloc ?_ _)); exact BK1407.out)) : gb1440 ≠ gb1407)); have n19_ := Aside0.mk ((by rw [hg]; exact Nat.ne_of_lt (blk_lt (g := gb1432) (o := .cells #[.slice Ao50 t1425.length co50, .slice Ao54 t1428.length co54, .int .i64 t1431] 83 (0, 0)) (by (with_reducible repeat (first | refine blk_drewN ?_ _ | refine blk_drew ?_ | refine blk_alloc ?_ _)); exact BK1432.out)) : gb1432 ≠ gb1440)); have n20_ := Aside0.mk ((by rw [hg]; exact Nat.ne_of_gt (blk_lt (g := gb1432) (o := .cells #[.slice Ao50 t1425.length co50, .slice Ao54 t1428.length co54, .int .i64 t1431] 83 (0, 0)) (by (with_reducible repeat (first | refine blk_drewN ?_ _ | refine blk_drew ?_ | refine blk_alloc ?_ _)); exact BK1432.out)) : gb1440 ≠ gb1432)); clear HO1412; clear HO1415; clear HO1419; clear HO1422; clear HO1427; clear HO1430; clear HO1435; clear HO1438; clear BK1406; clear BK1407; clear BK1432; clear HB; have HO1412 := n0_; have HO1415 := n1_; have HO1419 := n2_; have HO1422 := n3_; have HO1427 := n4_; have HO1430 := n5_; have HO1435 := n6_; have HO1438 := n7_; have BK1406 := n8_; have BK1407 := n9_; have BK1432 := n10_; have HB := n11_; have BK1440 := n12_; have GW1440 := n13_; have GE1440 := n14_; have NB1406_1440 := n15_; have NB1440_1406 := n16_; have NB1407_1440 := n17_; have NB1440_1407 := n18_; have NB1432_1440 := n19_; have NB1440_1432 := n20_; clear n0_ n1_ n2_ n3_ n4_ n5_ n6_ n7_ n8_ n9_ n10_ n11_ n12_ n13_ n14_ n15_ n16_ n17_ n18_ n19_ n20_; clear hb hbox hg; obtain ⟨Ao58, co58, eo58⟩ := Kd.R_slice HO1435.out; subst eo58; have hnb59 := NB1440_1406.out; have hnc59 := NB1406_1440.out; have hnb60 := NB1440_1407.out; have hnc60 := NB1407_1440.out; have hnb61 := NB1440_1432.out; have hnc61 := NB1432_1440.out; have hcz62_0 : w57.cell? ⟨gb1440, 0, none⟩ = some (.slice none 0 0) := (blk_cell BK1440.out 0).trans rfl; have hcz62_1 : w57.cell? ⟨gb1440, 1, none⟩ = some (.slice none 0 0) := (blk_cell BK1440.out 1).trans rfl; have hcz62_2 : w57.cell? ⟨gb1440, 2, none⟩ = some (.int .i64 0) := (blk_cell BK1440.out 2).trans rfl; have hfz62_0 := blk_frozen BK1440.out 0; have hfz62_1 := blk_frozen BK1440.out 1; have hfz62_2 := blk_frozen BK1440.out 2; obtain ⟨Ao63, co63, eo63⟩ := Kd.S_slice HO1438.out; subst eo63; have hcz64_0 : w57.cell? ⟨gb1432, 0, none⟩ = some (.slice Ao50 t1425.length co50) := (blk_cell BK1432.out 0).trans rfl; have hcz64_1 : w57.cell? ⟨gb1432, 1, none⟩ = some (.slice Ao54 t1428.length co54) := (blk_cell BK1432.out 1).trans rfl; have hcz64_2 : w57.cell? ⟨gb1432, 2, none⟩ = some (.int .i64 t1431) := (blk_cell BK1432.out 2).trans rfl; have hfz64_0 := blk_frozen BK1432.out 0; have hfz64_1 := blk_frozen BK1432.out 1; have hfz64_2 := blk_frozen BK1432.out 2) | ((with_reducible refine gate_callee (f := 67) rfl ?_); refine goesL_ (some 31) rfl rfl Try.func67 (by kernel_rfl) rfl #[.agg #[.slice Ao50 t1425.length co50, .slice Ao54 t1428.length co54, .int .i64 t1431], .agg #[.slice Ao58 t1433.length co58, .slice Ao63 t1436.length co63, .int .i64 t1439]] rfl (by (try simp only [List.map_toArray, List.map_cons, List.map_nil]); first | done | rfl | (simp only [List.length_drop, List.length_take]; rfl)) ?_; (with_reducible refine (impl_SameStore.calls k _ _ t1425 _ _ t1428 t1431 _ _ t1433 _ _ t1436 t1439 t1441 _ ?side1 ?side2 ?side3 ?side4 ?side5 ?side6 ?side7 ?side8 A24.out).mono ?_); (case side1 => refine (Kd.R_reads' (e := 147) (base := w.heap.size) (ok := fun k_ => (((True ∧ some k_ ≠ (.slice Ao42 t1410.length co42 : Value).ownBlock) ∧ some k_ ≠ (.slice Ao44 t1417.length co44 : Value).ownBlock) ∧ some k_ ≠ (.slice Ao58 t1433.length co58 : Value).ownBlock)) (n := t1425.length) (c := co50) ?_).2.2; exact (by (with_reducible repeat (first | apply Kd.R_alloc | apply Kd.R_drewN | apply Kd.R_drew)); exact (Kd.R_mono (Kd.R_far (p := ⟨gb1440, 2, none⟩) (Kd.R_far (p := ⟨gb1440, 1, none⟩) (Kd.R_far (p := ⟨gb1440, 0, none⟩) (Kd.R_types HO1427.out BK1440.out (by decide)) (fun _ hk => hk.2) (.slice Ao58 t1433.length co58)) (fun _ hk => hk.2) (.slice Ao63 t1436.length co63)) (fun _ hk => hk.2) (.int .i64 t1439)) (fun _ h_ => h_.1)))); (case side2 => exact (Kd.R_reads' HO1427.out).2.1); (case side3 => refine (Kd.S_reads' (e := 133) (base := w.heap.size) (ok := fun k_ => (((True ∧ some k_ ≠ (.slice Ao43 t1413.length co43 : Value).ownBlock) ∧ some k_ ≠ (.slice Ao45 t1420.length co45 : Value).ownBlock) ∧ some k_ ≠ (.slice Ao63 t1436.length co63 : Value).ownBlock)) (n := t1428.length) (c := co54) ?_).2.2; exact (by (with_reducible repeat (first | apply Kd.S_alloc | apply Kd.S_drewN | apply Kd.S_drew)); exact (Kd.S_mono (Kd.S_far (p := ⟨gb1440, 2, none⟩) (Kd.S_far (p := ⟨gb1440, 1, none⟩) (Kd.S_far (p := ⟨gb1440, 0, none⟩) (Kd.S_types HO1430.out BK1440.out (by decide)) (fun _ hk => hk.2) (.slice Ao58 t1433.length co58)) (fun _ hk => hk.2) (.slice Ao63 t1436.length co63)) (fun _ hk => hk.2) (.int .i64 t1439)) (fun _ h_ => h_.1)))); (case side4 => exact (Kd.S_reads' HO1430.out).2.1); (case side5 => refine (Kd.R_reads' (e := 147) (base := w.heap.size) (ok := fun k_ => (((True ∧ some k_ ≠ (.slice Ao42 t1410.length co42 : Value).ownBlock) ∧ some k_ ≠ (.slice Ao44 t1417.length co44 : Value).ownBlock) ∧ some k_ ≠ (.slice Ao50 t1425.length co50 : Value).ownBlock)) (n := t1433.length) (c := co58) ?_).2.2; exact (by (with_reducible repeat (first | apply Kd.R_alloc | apply Kd.R_drewN | apply Kd.R_drew)); exact (Kd.R_mono (Kd.R_far (p := ⟨gb1440, 2, none⟩) (Kd.R_far (p := ⟨gb1440, 1, none⟩) (Kd.R_far (p := ⟨gb1440, 0, none⟩) (Kd.R_types HO1435.out BK1440.out (by decide)) (fun _ hk => hk.2) (.slice Ao58 t1433.length co58)) (fun _ hk => hk.2) (.slice Ao63 t1436.length co63)) (fun _ hk => hk.2) (.int .i64 t1439)) (fun _ h_ => h_.1)))); (case side6 => exact (Kd.R_reads' HO1435.out).2.1); (case side7 => refine (Kd.S_reads' (e := 133) (base := w.heap.size) (ok := fun k_ => (((True ∧ some k_ ≠ (.slice Ao43 t1413.length co43 : Value).ownBlock) ∧ some k_ ≠ (.slice Ao45 t1420.length co45 : Value).ownBlock) ∧ some k_ ≠ (.slice Ao54 t1428.length co54 : Value).ownBlock)) (n := t1436.length) (c := co63) ?_).2.2; exact (by (with_reducible repeat (first | apply Kd.S_alloc | apply Kd.S_drewN | apply Kd.S_drew)); exact (Kd.S_mono (Kd.S_far (p := ⟨gb1440, 2, none⟩) (Kd.S_far (p := ⟨gb1440, 1, none⟩) (Kd.S_far (p := ⟨gb1440, 0, none⟩) (Kd.S_types HO1438.out BK1440.out (by decide)) (fun _ hk => hk.2) (.slice Ao58 t1433.length co58)) (fun _ hk => hk.2) (.slice Ao63 t1436.length co63)) (fun _ hk => hk.2) (.int .i64 t1439)) (fun _ h_ => h_.1)))); (case side8 => exact (Kd.S_reads' HO1438.out).2.1); rintro e w65 ⟨rfl, hb⟩; refine ⟨_, rfl, ?_⟩; have n0_ := Aside0.mk (Kd.R_below (by (with_reducible repeat (first | apply Kd.R_alloc | apply Kd.R_drewN | apply Kd.R_drew)); exact (Kd.R_mono (Kd.R_far (p := ⟨gb1440, 2, none⟩) (Kd.R_far (p := ⟨gb1440, 1, none⟩) (Kd.R_far (p := ⟨gb1440, 0, none⟩) (Kd.R_types HO1412.out BK1440.out (by decide)) (fun _ hk => hk.2) (.slice Ao58 t1433.length co58)) (fun _ hk => hk.2) (.slice Ao63 t1436.length co63)) (fun _ hk => hk.2) (.int .i64 t1439)) (fun _ h_ => h_.1))) hb); have n1_ := Aside0.mk (Kd.S_below (by (with_reducible repeat (first | apply Kd.S_alloc | apply Kd.S_drewN | apply Kd.S_drew)); exact (Kd.S_mono (Kd.S_far (p := ⟨gb1440, 2, none⟩) (Kd.S_far (p := ⟨gb1440, 1, none⟩) (Kd.S_far (p := ⟨gb1440, 0, none⟩) (Kd.S_types HO1415.out BK1440.out (by decide)) (fun _ hk => hk.2) (.slice Ao58 t1433.length co58)) (fun _ hk => hk.2) (.slice Ao63 t1436.length co63)) (fun _ hk => hk.2) (.int .i64 t1439)) (fun _ h_ => h_.1))) hb); have n2_ := Aside0.mk (Kd.R_below (by (with_reducible repeat (first | apply Kd.R_alloc | apply Kd.R_drewN | apply Kd.R_drew)); exact (Kd.R_mono (Kd.R_far (p := ⟨gb1440, 2, none⟩) (Kd.R_far (p := ⟨gb1440, 1, none⟩) (Kd.R_far (p := ⟨gb1440, 0, none⟩) (Kd.R_types HO1419.out BK1440.out (by decide)) (fun _ hk => hk.2) (.slice Ao58 t1433.length co58)) (fun _ hk => hk.2) (.slice Ao63 t1436.length co63)) (fun _ hk => hk.2) (.int .i64 t1439)) (fun _ h_ => h_.1))) hb); have n3_ := Aside0.mk (Kd.S_below (by (with_reducible repeat (first | apply Kd.S_alloc | apply Kd.S_drewN | apply Kd.S_drew)); exact (Kd.S_mono (Kd.S_far (p := ⟨gb1440, 2, none⟩) (Kd.S_far (p := ⟨gb1440, 1, none⟩) (Kd.S_far (p := ⟨gb1440, 0, none⟩) (Kd.S_types HO1422.out BK1440.out (by decide)) (fun _ hk => hk.2) (.slice Ao58 t1433.length co58)) (fun _ hk => hk.2) (.slice Ao63 t1436.length co63)) (fun _ hk => hk.2) (.int .i64 t1439)) (fun _ h_ => h_.1))) hb); have n4_ := Aside0.mk (Kd.R_below (by (with_reducible repeat (first | apply Kd.R_alloc | apply Kd.R_drewN | apply Kd.R_drew)); exact (Kd.R_mono (Kd.R_far (p := ⟨gb1440, 2, none⟩) (Kd.R_far (p := ⟨gb1440, 1, none⟩) (Kd.R_far (p := ⟨gb1440, 0, none⟩) (Kd.R_types HO1427.out BK1440.out (by decide)) (fun _ hk => hk.2) (.slice Ao58 t1433.length co58)) (fun _ hk => hk.2) (.slice Ao63 t1436.length co63)) (fun _ hk => hk.2) (.int .i64 t1439)) (fun _ h_ => h_.1))) hb); have n5_ := Aside0.mk (Kd.S_below (by (with_reducible repeat (first | apply Kd.S_alloc | apply Kd.S_drewN | apply Kd.S_drew)); exact (Kd.S_mono (Kd.S_far (p := ⟨gb1440, 2, none⟩) (Kd.S_far (p := ⟨gb1440, 1, none⟩) (Kd.S_far (p := ⟨gb1440, 0, none⟩) (Kd.S_types HO1430.out BK1440.out (by decide)) (fun _ hk => hk.2) (.slice Ao58 t1433.length co58)) (fun _ hk => hk.2) (.slice Ao63 t1436.length co63)) (fun _ hk => hk.2) (.int .i64 t1439)) (fun _ h_ => h_.1))) hb); have n6_ := Aside0.mk (Kd.R_below (by (with_reducible repeat (first | apply Kd.R_alloc | apply Kd.R_drewN | apply Kd.R_drew)); exact (Kd.R_mono (Kd.R_far (p := ⟨gb1440, 2, none⟩) (Kd.R_far (p := ⟨gb1440, 1, none⟩) (Kd.R_far (p := ⟨gb1440, 0, none⟩) (Kd.R_types HO1435.out BK1440.out (by decide)) (fun _ hk => hk.2) (.slice Ao58 t1433.length co58)) (fun _ hk => hk.2) (.slice Ao63 t1436.length co63)) (fun _ hk => hk.2) (.int .i64 t1439)) (fun _ h_ => h_.1))) hb); have n7_ := Aside0.mk (Kd.S_below (by (with_reducible repeat (first | apply Kd.S_alloc | apply Kd.S_drewN | apply Kd.S_drew)); exact (Kd.S_mono (Kd.S_far (p := ⟨gb1440, 2, none⟩) (Kd.S_far (p := ⟨gb1440, 1, none⟩) (Kd.S_far (p := ⟨gb1440, 0, none⟩) (Kd.S_types HO1438.out BK1440.out (by decide)) (fun _ hk => hk.2) (.slice Ao58 t1433.length co58)) (fun _ hk => hk.2) (.slice Ao63 t1436.length co63)) (fun _ hk => hk.2) (.int .i64 t1439)) (fun _ h_ => h_.1))) hb); have n8_ := Aside0.mk (blk_below (g := gb1406) (o := .cells #[.slice A0_0 l0_0.length c0_0, .slice A0_1 l0_1.length c0_1, .int .i64 a0_2] 78 (0, 0)) (by (with_reducible repeat (first | refine blk_drewN ?_ _ | refine blk_drew ?_ | refine blk_alloc ?_ _)); refine blk_far ?_ NB1406_1440.out _; (with_reducible repeat (first | refine blk_drewN ?_ _ | refine blk_drew ?_ | refine blk_alloc ?_ _)); refine blk_far ?_ NB1406_1440.out _; (with_reducible repeat (first | refine blk_drewN ?_ _ | refine blk_drew ?_ | refine blk_alloc ?_ _)); refine blk_far ?_ NB1406_1440.out _; (with_reducible repeat (first | refine blk_drewN ?_ _ | refine blk_drew ?_ | refine blk_alloc ?_ _)); exact BK1406.out) hb); have n9_ := Aside0.mk (blk_below (g := gb1407) (o := .cells #[.slice A1_0 l1_0.length c1_0, .slice A1_1 l1_1.length c1_1, .int .i64 a1_2] 78 (0, 0)) (by (with_reducible repeat (first | refine blk_drewN ?_ _ | refine blk_drew ?_ | refine blk_alloc ?_ _)); refine blk_far ?_ NB1407_1440.out _; (with_reducible repeat (first | refine blk_drewN ?_ _ | refine blk_drew ?_ | refine blk_alloc ?_ _)); refine blk_far ?_ NB1407_1440.out _; (with_reducible repeat (first | refine blk_drewN ?_ _ | refine blk_drew ?_ | refine blk_alloc ?_ _)); refine blk_far ?_ NB1407_1440.out _; (with_reducible repeat (first | refine blk_drewN ?_ _ | refine blk_drew ?_ | refine blk_alloc ?_ _)); exact BK1407.out) hb); have n10_ := Aside0.mk (blk_below (g := gb1432) (o := .cells #[.slice Ao50 t1425.length co50, .slice Ao54 t1428.length co54, .int .i64 t1431] 83 (0, 0)) (by (with_reducible repeat (first | refine blk_drewN ?_ _ | refine blk_drew ?_ | refine blk_alloc ?_ _)); refine blk_far ?_ NB1432_1440.out _; (with_reducible repeat (first | refine blk_drewN ?_ _ | refine blk_drew ?_ | refine blk_alloc ?_ _)); refine blk_far ?_ NB1432_1440.out _; (with_reducible repeat (first | refine blk_drewN ?_ _ | refine blk_drew ?_ | refine blk_alloc ?_ _)); refine blk_far ?_ NB1432_1440.out _; (with_reducible repeat (first | refine blk_drewN ?_ _ | refine blk_drew ?_ | refine blk_alloc ?_ _)); exact BK1432.out) hb); have n11_ := Aside0.mk (blk_below (g := gb1440) (o := .cells #[.slice Ao58 t1433.length co58, .slice Ao63 t1436.length co63, .int .i64 t1439] 83 (0, 0)) (by (with_reducible repeat (first | refine blk_drewN ?_ _ | refine blk_drew ?_ | refine blk_alloc ?_ _)); refine blk_put (cs := #[.slice Ao58 t1433.length co58, .slice Ao63 t1436.length co63, .int .i64 0]) ?_ 2 _ rfl; (with_reducible repeat (first | refine blk_drewN ?_ _ | refine blk_drew ?_ | refine blk_alloc ?_ _)); refine blk_put (cs := #[.slice Ao58 t1433.length co58, .slice none 0 0, .int .i64 0]) ?_ 1 _ rfl; (with_reducible repeat (first | refine blk_drewN ?_ _ | refine blk_drew ?_ | refine blk_alloc ?_ _)); refine blk_put (cs := #[.slice none 0 0, .slice none 0 0, .int .i64 0]) ?_ 0 _ rfl; (with_reducible repeat (first | refine blk_drewN ?_ _ | refine blk_drew ?_ | refine blk_alloc ?_ _)); exact BK1440.out) hb); have n12_ := Aside0.mk (below_step (by repeat (first | (with_reducible first | exact HB.out | apply below_alloc | apply pw_below_drewN | apply below_drew1 | refine below_set ?_ GE1406.out | refine below_set ?_ GE1407.out | refine below_set ?_ GE1432.out | refine below_set ?_ GE1440.out) | exact HB.out)) hb); clear HO1412; clear HO1415; clear HO1419; clear HO1422; clear HO1427; clear HO1430; clear HO1435; clear HO1438; clear BK1406; clear BK1407; clear BK1432; clear BK1440; clear HB; have HO1412 := n0_; have HO1415 := n1_; have HO1419 := n2_; have HO1422 := n3_; have HO1427 := n4_; have HO1430 := n5_; have HO1435 := n6_; have HO1438 := n7_; have BK1406 := n8_; have BK1407 := n9_; have BK1432 := n10_; have BK1440 := n11_; have HB := n12_; clear n0_ n1_ n2_ n3_ n4_ n5_ n6_ n7_ n8_ n9_ n10_ n11_ n12_; (try clear hb); (try clear hb2); (try clear hk); (try clear hi)))
            have n0_ := Aside0.mk (Kd.R_drew HO1412.out)
            have n1_ := Aside0.mk (Kd.S_drew HO1415.out)
            have n2_ := Aside0.mk (Kd.R_drew HO1419.out)
            have n3_ := Aside0.mk (Kd.S_drew HO1422.out)
            have n4_ := Aside0.mk (Kd.R_drew HO1427.out)
            have n5_ := Aside0.mk (Kd.S_drew HO1430.out)
            have n6_ := Aside0.mk (Kd.R_drew HO1435.out)
            have n7_ := Aside0.mk (Kd.S_drew HO1438.out)
            have n8_ := Aside0.mk (blk_drew BK1406.out)
            have n9_ := Aside0.mk (blk_drew BK1407.out)
            have n10_ := Aside0.mk (blk_drew BK1432.out)
            have n11_ := Aside0.mk (blk_drew BK1440.out)
            have n12_ := Aside0.mk (below_drew1 HB.out)
            clear HO1412
            clear HO1415
            clear HO1419
            clear HO1422
            clear HO1427
            clear HO1430
            clear HO1435
            clear HO1438
            clear BK1406
            clear BK1407
            clear BK1432
            clear BK1440
            clear HB
            have HO1412 := n0_
            have HO1415 := n1_
            have HO1419 := n2_
            have HO1422 := n3_
            have HO1427 := n4_
            have HO1430 := n5_
            have HO1435 := n6_
            have HO1438 := n7_
            have BK1406 := n8_
            have BK1407 := n9_
            have BK1432 := n10_
            have BK1440 := n11_
            have HB := n12_
            clear n0_ n1_ n2_ n3_ n4_ n5_ n6_ n7_ n8_ n9_ n10_ n11_ n12_
            refine start_ (n := 5) (S := fun w' => w'.cell? ⟨gb1432, 0, none⟩ = some (.slice Ao50 t1425.length co50) ∧ w'.cell? ⟨gb1432, 1, none⟩ = some (.slice Ao54 t1428.length co54) ∧ w'.cell? ⟨gb1432, 2, none⟩ = some (.int .i64 t1431) ∧ w'.cell? ⟨gb1406, 0, none⟩ = some (.slice A0_0 l0_0.length c0_0) ∧ w'.cell? ⟨gb1406, 1, none⟩ = some (.slice A0_1 l0_1.length c0_1) ∧ w'.cell? ⟨gb1406, 2, none⟩ = some (.int .i64 a0_2)) (ds := []) #[false, false, false, false, false] (by kernel_rfl) rfl rfl ⟨(blk_cell BK1432.out 0).trans rfl, (blk_cell BK1432.out 1).trans rfl, (blk_cell BK1432.out 2).trans rfl, (blk_cell BK1406.out 0).trans rfl, (blk_cell BK1406.out 1).trans rfl, (blk_cell BK1406.out 2).trans rfl⟩ (fun hHeld => ?_)
            generalize w65.drew = w66 at HO1412 HO1415 HO1419 HO1422 HO1427 HO1430 HO1435 HO1438 BK1406 BK1407 BK1432 BK1440 HB hHeld ⊢
            refine take_ (i := 0) (N := some 35) (v := ?_) (a' := ?_) #[true, false, false, false, false] rfl rfl (by kernel_rfl) (fun _ _ _ h => h) (Or.inl ⟨by rfl, ?_⟩) hHeld ?_ ?_
            rotate_left
            · rintro w' ⟨s0, s1, s2, s3, s4, s5⟩
              go_simp
              with_reducible rfl
            rotate_left
            · simp only [Act.put, List.setIfInBounds_toArray, List.set_cons_zero, List.set_cons_succ, i64_w, i32_w]
              rfl
            refine take_ (i := 1) (N := some 36) (v := ?_) (a' := ?_) #[true, true, false, false, false] rfl rfl (by kernel_rfl) (fun _ _ _ h => h) (Or.inl ⟨by rfl, ?_⟩) hHeld ?_ ?_
            rotate_left
            · rintro w' ⟨s0, s1, s2, s3, s4, s5⟩
              go_simp
              with_reducible rfl
            rotate_left
            · simp only [Act.put, List.setIfInBounds_toArray, List.set_cons_zero, List.set_cons_succ, i64_w, i32_w]
              rfl
            refine one_ (i := 2) (N := some 37) #[true, true, true, false, false] rfl rfl (by kernel_rfl) (by decide) (fun K hK => ?_)
            refine goes_ Try.func46 (by kernel_rfl) rfl #[.agg #[.slice A0_0 l0_0.length c0_0, .slice A0_1 l0_1.length c0_1, .int .i64 a0_2]] (by rfl) rfl rfl (by (try simp only [List.map_toArray, List.map_cons, List.map_nil]); first | done | rfl | (simp only [List.length_drop, List.length_take]; rfl)) ?_
            with_reducible refine (laws_toStore.calls k _ _ l0_0 _ _ l0_1 a0_2 t1442 t1445 t1448 _ ?side1 ?side2 ?side3 ?side4 A26.out).mono ?_
            (case side1 => repeat (first | exact (Kd.C_below HR0_0.out HB.out) | (with_reducible refine Kd.C_alloc ?_ _) | (with_reducible refine Kd.C_drewN ?_ _) | (with_reducible refine Kd.C_drew ?_)))
            (case side2 => exact HC0_0.out)
            (case side3 => repeat (first | exact (Kd.C_below HR0_1.out HB.out) | (with_reducible refine Kd.C_alloc ?_ _) | (with_reducible refine Kd.C_drewN ?_ _) | (with_reducible refine Kd.C_drew ?_)))
            (case side4 => exact HC0_1.out)
            rintro e w67 ⟨v1443, v1446, rfl, ho0, ho1, hb⟩
            refine ⟨_, rfl, ?_⟩
            have n0_ := Aside0.mk (Kd.R_elder' (by (with_reducible repeat (first | apply Kd.R_alloc | apply Kd.R_drewN | apply Kd.R_drew)); exact HO1412.out) (Kd.R_base ho0) hb)
            have n1_ := Aside0.mk (Kd.S_elder' (by (with_reducible repeat (first | apply Kd.S_alloc | apply Kd.S_drewN | apply Kd.S_drew)); exact HO1415.out) (Kd.S_base ho1) hb)
            have n2_ := Aside0.mk (Kd.R_elder' (by (with_reducible repeat (first | apply Kd.R_alloc | apply Kd.R_drewN | apply Kd.R_drew)); exact HO1419.out) (Kd.R_base ho0) hb)
            have n3_ := Aside0.mk (Kd.S_elder' (by (with_reducible repeat (first | apply Kd.S_alloc | apply Kd.S_drewN | apply Kd.S_drew)); exact HO1422.out) (Kd.S_base ho1) hb)
            have n4_ := Aside0.mk (Kd.R_elder' (by (with_reducible repeat (first | apply Kd.R_alloc | apply Kd.R_drewN | apply Kd.R_drew)); exact HO1427.out) (Kd.R_base ho0) hb)
            have n5_ := Aside0.mk (Kd.S_elder' (by (with_reducible repeat (first | apply Kd.S_alloc | apply Kd.S_drewN | apply Kd.S_drew)); exact HO1430.out) (Kd.S_base ho1) hb)
            have n6_ := Aside0.mk (Kd.R_elder' (by (with_reducible repeat (first | apply Kd.R_alloc | apply Kd.R_drewN | apply Kd.R_drew)); exact HO1435.out) (Kd.R_base ho0) hb)
            have n7_ := Aside0.mk (Kd.S_elder' (by (with_reducible repeat (first | apply Kd.S_alloc | apply Kd.S_drewN | apply Kd.S_drew)); exact HO1438.out) (Kd.S_base ho1) hb)
            have n8_ := Aside0.mk (Kd.R_lower (Kd.R_new' (Kd.R_new' (Kd.R_new' (Kd.R_new' ho0 (Kd.R_lt (by (with_reducible repeat (first | apply Kd.R_alloc | apply Kd.R_drewN | apply Kd.R_drew)); exact HO1412.out))) (Kd.R_lt (by (with_reducible repeat (first | apply Kd.R_alloc | apply Kd.R_drewN | apply Kd.R_drew)); exact HO1419.out))) (Kd.R_lt (by (with_reducible repeat (first | apply Kd.R_alloc | apply Kd.R_drewN | apply Kd.R_drew)); exact HO1427.out))) (Kd.R_lt (by (with_reducible repeat (first | apply Kd.R_alloc | apply Kd.R_drewN | apply Kd.R_drew)); exact HO1435.out))) (below_size (by repeat (first | (with_reducible first | exact HB.out | apply below_alloc | apply pw_below_drewN | apply below_drew1 | refine below_set ?_ GE1406.out | refine below_set ?_ GE1407.out | refine below_set ?_ GE1432.out | refine below_set ?_ GE1440.out) | exact HB.out))))
            have n9_ := Aside0.mk (Kd.S_lower (Kd.S_new' (Kd.S_new' (Kd.S_new' (Kd.S_new' ho1 (Kd.S_lt (by (with_reducible repeat (first | apply Kd.S_alloc | apply Kd.S_drewN | apply Kd.S_drew)); exact HO1415.out))) (Kd.S_lt (by (with_reducible repeat (first | apply Kd.S_alloc | apply Kd.S_drewN | apply Kd.S_drew)); exact HO1422.out))) (Kd.S_lt (by (with_reducible repeat (first | apply Kd.S_alloc | apply Kd.S_drewN | apply Kd.S_drew)); exact HO1430.out))) (Kd.S_lt (by (with_reducible repeat (first | apply Kd.S_alloc | apply Kd.S_drewN | apply Kd.S_drew)); exact HO1438.out))) (below_size (by repeat (first | (with_reducible first | exact HB.out | apply below_alloc | apply pw_below_drewN | apply below_drew1 | refine below_set ?_ GE1406.out | refine below_set ?_ GE1407.out | refine below_set ?_ GE1432.out | refine below_set ?_ GE1440.out) | exact HB.out))))
            have n10_ := Aside0.mk (blk_below (g := gb1406) (o := .cells #[.slice A0_0 l0_0.length c0_0, .slice A0_1 l0_1.length c0_1, .int .i64 a0_2] 78 (0, 0)) (by (with_reducible repeat (first | refine blk_drewN ?_ _ | refine blk_drew ?_ | refine blk_alloc ?_ _)); exact BK1406.out) hb)
            have n11_ := Aside0.mk (blk_below (g := gb1407) (o := .cells #[.slice A1_0 l1_0.length c1_0, .slice A1_1 l1_1.length c1_1, .int .i64 a1_2] 78 (0, 0)) (by (with_reducible repeat (first | refine blk_drewN ?_ _ | refine blk_drew ?_ | refine blk_alloc ?_ _)); exact BK1407.out) hb)
            have n12_ := Aside0.mk (blk_below (g := gb1432) (o := .cells #[.slice Ao50 t1425.length co50, .slice Ao54 t1428.length co54, .int .i64 t1431] 83 (0, 0)) (by (with_reducible repeat (first | refine blk_drewN ?_ _ | refine blk_drew ?_ | refine blk_alloc ?_ _)); exact BK1432.out) hb)
            have n13_ := Aside0.mk (blk_below (g := gb1440) (o := .cells #[.slice Ao58 t1433.length co58, .slice Ao63 t1436.length co63, .int .i64 t1439] 83 (0, 0)) (by (with_reducible repeat (first | refine blk_drewN ?_ _ | refine blk_drew ?_ | refine blk_alloc ?_ _)); exact BK1440.out) hb)
            have n14_ := Aside0.mk (below_step (by repeat (first | (with_reducible first | exact HB.out | apply below_alloc | apply pw_below_drewN | apply below_drew1 | refine below_set ?_ GE1406.out | refine below_set ?_ GE1407.out | refine below_set ?_ GE1432.out | refine below_set ?_ GE1440.out) | exact HB.out)) hb)
            clear HO1412
            clear HO1415
            clear HO1419
            clear HO1422
            clear HO1427
            clear HO1430
            clear HO1435
            clear HO1438
            clear BK1406
            clear BK1407
            clear BK1432
            clear BK1440
            clear HB
            have HO1412 := n0_
            have HO1415 := n1_
            have HO1419 := n2_
            have HO1422 := n3_
            have HO1427 := n4_
            have HO1430 := n5_
            have HO1435 := n6_
            have HO1438 := n7_
            have HO1444 := n8_
            have HO1447 := n9_
            have BK1406 := n10_
            have BK1407 := n11_
            have BK1432 := n12_
            have BK1440 := n13_
            have HB := n14_
            clear n0_ n1_ n2_ n3_ n4_ n5_ n6_ n7_ n8_ n9_ n10_ n11_ n12_ n13_ n14_
            (try clear hb)
            (try clear hb2)
            (try clear hk)
            (try clear hi)
            (try clear ho0)
            (try clear ho1)
            obtain ⟨Ao68, co68, eo68⟩ := Kd.R_slice HO1444.out
            (first | subst eo68 | (injection eo68 with f1_ f2_ f3_; have f4_ := f1_.symm; have f5_ := f3_.symm; clear f1_ f2_ f3_; subst f4_; subst f5_))
            obtain ⟨Ao69, co69, eo69⟩ := Kd.S_slice HO1447.out
            (first | subst eo69 | (injection eo69 with f1_ f2_ f3_; have f4_ := f1_.symm; have f5_ := f3_.symm; clear f1_ f2_ f3_; subst f4_; subst f5_))
            refine hK.out _ _ ⟨(blk_cell BK1432.out 0).trans rfl, (blk_cell BK1432.out 1).trans rfl, (blk_cell BK1432.out 2).trans rfl, (blk_cell BK1406.out 0).trans rfl, (blk_cell BK1406.out 1).trans rfl, (blk_cell BK1406.out 2).trans rfl⟩ (fun hHeld => ?_)
            clear hK K
            refine norm_ (a' := ?_) ?_ ?_
            rotate_left
            · show Act.put _ (some 37) _ = _
              simp only [Act.put, List.setIfInBounds_toArray, List.set_cons_zero, List.set_cons_succ, i64_w, i32_w]
              rfl
            refine one_ (i := 3) (N := some 38) #[true, true, true, true, false] rfl rfl (by kernel_rfl) (by decide) (fun K hK => ?_)
            refine goes_ Try.func48 (by kernel_rfl) rfl #[.agg #[.slice Ao50 t1425.length co50, .slice Ao54 t1428.length co54, .int .i64 t1431], .agg #[.slice Ao68 t1442.length co68, .slice Ao69 t1445.length co69, .int .i64 t1448]] (by rfl) rfl rfl (by (try simp only [List.map_toArray, List.map_cons, List.map_nil]); first | done | rfl | (simp only [List.length_drop, List.length_take]; rfl)) ?_
            with_reducible refine (laws_eqStore.calls k _ _ t1425 _ _ t1428 t1431 _ _ t1442 _ _ t1445 t1448 true _ ?side1 ?side2 ?side3 ?side4 ?side5 ?side6 ?side7 ?side8 A27.out).mono ?_
            (case side1 => repeat (first | exact (Kd.R_reads' HO1427.out).2.2 | (with_reducible refine Kd.C_alloc ?_ _) | (with_reducible refine Kd.C_drewN ?_ _) | (with_reducible refine Kd.C_drew ?_)))
            (case side2 => exact (Kd.R_reads' HO1427.out).2.1)
            (case side3 => repeat (first | exact (Kd.S_reads' HO1430.out).2.2 | (with_reducible refine Kd.C_alloc ?_ _) | (with_reducible refine Kd.C_drewN ?_ _) | (with_reducible refine Kd.C_drew ?_)))
            (case side4 => exact (Kd.S_reads' HO1430.out).2.1)
            (case side5 => repeat (first | exact (Kd.R_reads' HO1444.out).2.2 | (with_reducible refine Kd.C_alloc ?_ _) | (with_reducible refine Kd.C_drewN ?_ _) | (with_reducible refine Kd.C_drew ?_)))
            (case side6 => exact (Kd.R_reads' HO1444.out).2.1)
            (case side7 => repeat (first | exact (Kd.S_reads' HO1447.out).2.2 | (with_reducible refine Kd.C_alloc ?_ _) | (with_reducible refine Kd.C_drewN ?_ _) | (with_reducible refine Kd.C_drew ?_)))
            (case side8 => exact (Kd.S_reads' HO1447.out).2.1)
            rintro e w70 ⟨rfl, hb⟩
            refine ⟨_, rfl, ?_⟩
            have n0_ := Aside0.mk (Kd.R_below (by (with_reducible repeat (first | apply Kd.R_alloc | apply Kd.R_drewN | apply Kd.R_drew)); exact HO1412.out) hb)
            have n1_ := Aside0.mk (Kd.S_below (by (with_reducible repeat (first | apply Kd.S_alloc | apply Kd.S_drewN | apply Kd.S_drew)); exact HO1415.out) hb)
            have n2_ := Aside0.mk (Kd.R_below (by (with_reducible repeat (first | apply Kd.R_alloc | apply Kd.R_drewN | apply Kd.R_drew)); exact HO1419.out) hb)
            have n3_ := Aside0.mk (Kd.S_below (by (with_reducible repeat (first | apply Kd.S_alloc | apply Kd.S_drewN | apply Kd.S_drew)); exact HO1422.out) hb)
            have n4_ := Aside0.mk (Kd.R_below (by (with_reducible repeat (first | apply Kd.R_alloc | apply Kd.R_drewN | apply Kd.R_drew)); exact HO1427.out) hb)
            have n5_ := Aside0.mk (Kd.S_below (by (with_reducible repeat (first | apply Kd.S_alloc | apply Kd.S_drewN | apply Kd.S_drew)); exact HO1430.out) hb)
            have n6_ := Aside0.mk (Kd.R_below (by (with_reducible repeat (first | apply Kd.R_alloc | apply Kd.R_drewN | apply Kd.R_drew)); exact HO1435.out) hb)
            have n7_ := Aside0.mk (Kd.S_below (by (with_reducible repeat (first | apply Kd.S_alloc | apply Kd.S_drewN | apply Kd.S_drew)); exact HO1438.out) hb)
            have n8_ := Aside0.mk (Kd.R_below (by (with_reducible repeat (first | apply Kd.R_alloc | apply Kd.R_drewN | apply Kd.R_drew)); exact HO1444.out) hb)
            have n9_ := Aside0.mk (Kd.S_below (by (with_reducible repeat (first | apply Kd.S_alloc | apply Kd.S_drewN | apply Kd.S_drew)); exact HO1447.out) hb)
            have n10_ := Aside0.mk (blk_below (g := gb1406) (o := .cells #[.slice A0_0 l0_0.length c0_0, .slice A0_1 l0_1.length c0_1, .int .i64 a0_2] 78 (0, 0)) (by (with_reducible repeat (first | refine blk_drewN ?_ _ | refine blk_drew ?_ | refine blk_alloc ?_ _)); exact BK1406.out) hb)
            have n11_ := Aside0.mk (blk_below (g := gb1407) (o := .cells #[.slice A1_0 l1_0.length c1_0, .slice A1_1 l1_1.length c1_1, .int .i64 a1_2] 78 (0, 0)) (by (with_reducible repeat (first | refine blk_drewN ?_ _ | refine blk_drew ?_ | refine blk_alloc ?_ _)); exact BK1407.out) hb)
            have n12_ := Aside0.mk (blk_below (g := gb1432) (o := .cells #[.slice Ao50 t1425.length co50, .slice Ao54 t1428.length co54, .int .i64 t1431] 83 (0, 0)) (by (with_reducible repeat (first | refine blk_drewN ?_ _ | refine blk_drew ?_ | refine blk_alloc ?_ _)); exact BK1432.out) hb)
            have n13_ := Aside0.mk (blk_below (g := gb1440) (o := .cells #[.slice Ao58 t1433.length co58, .slice Ao63 t1436.length co63, .int .i64 t1439] 83 (0, 0)) (by (with_reducible repeat (first | refine blk_drewN ?_ _ | refine blk_drew ?_ | refine blk_alloc ?_ _)); exact BK1440.out) hb)
            have n14_ := Aside0.mk (below_step (by repeat (first | (with_reducible first | exact HB.out | apply below_alloc | apply pw_below_drewN | apply below_drew1 | refine below_set ?_ GE1406.out | refine below_set ?_ GE1407.out | refine below_set ?_ GE1432.out | refine below_set ?_ GE1440.out) | exact HB.out)) hb)
            clear HO1412
            clear HO1415
            clear HO1419
            clear HO1422
            clear HO1427
            clear HO1430
            clear HO1435
            clear HO1438
            clear HO1444
            clear HO1447
            clear BK1406
            clear BK1407
            clear BK1432
            clear BK1440
            clear HB
            have HO1412 := n0_
            have HO1415 := n1_
            have HO1419 := n2_
            have HO1422 := n3_
            have HO1427 := n4_
            have HO1430 := n5_
            have HO1435 := n6_
            have HO1438 := n7_
            have HO1444 := n8_
            have HO1447 := n9_
            have BK1406 := n10_
            have BK1407 := n11_
            have BK1432 := n12_
            have BK1440 := n13_
            have HB := n14_
            clear n0_ n1_ n2_ n3_ n4_ n5_ n6_ n7_ n8_ n9_ n10_ n11_ n12_ n13_ n14_
            (try clear hb)
            (try clear hb2)
            (try clear hk)
            (try clear hi)
            refine hK.out _ _ ⟨(blk_cell BK1432.out 0).trans rfl, (blk_cell BK1432.out 1).trans rfl, (blk_cell BK1432.out 2).trans rfl, (blk_cell BK1406.out 0).trans rfl, (blk_cell BK1406.out 1).trans rfl, (blk_cell BK1406.out 2).trans rfl⟩ (fun hHeld => ?_)
            clear hK K
            refine norm_ (a' := ?_) ?_ ?_
            rotate_left
            · show Act.put _ (some 38) _ = _
              simp only [Act.put, List.setIfInBounds_toArray, List.set_cons_zero, List.set_cons_succ, i64_w, i32_w]
              rfl
            refine pure_ (i := 4) (N := some 39) (v := ?_) (a' := ?_) #[true, true, true, true, true] rfl rfl (by kernel_rfl) (fun _ _ _ h => h) (Or.inl ⟨by rfl, ?_⟩) ?_ ?_
            rotate_left
            · intro w'
              go_simp
              with_reducible rfl
            rotate_left
            · simp only [Act.put, List.setIfInBounds_toArray, List.set_cons_zero, List.set_cons_succ, i64_w, i32_w]
              rfl
            refine done_ (by kernel_rfl) ?_
            try go_wp2
            have n0_ := Aside0.mk (Kd.R_drew HO1412.out)
            have n1_ := Aside0.mk (Kd.S_drew HO1415.out)
            have n2_ := Aside0.mk (Kd.R_drew HO1419.out)
            have n3_ := Aside0.mk (Kd.S_drew HO1422.out)
            have n4_ := Aside0.mk (Kd.R_drew HO1427.out)
            have n5_ := Aside0.mk (Kd.S_drew HO1430.out)
            have n6_ := Aside0.mk (Kd.R_drew HO1435.out)
            have n7_ := Aside0.mk (Kd.S_drew HO1438.out)
            have n8_ := Aside0.mk (Kd.R_drew HO1444.out)
            have n9_ := Aside0.mk (Kd.S_drew HO1447.out)
            have n10_ := Aside0.mk (blk_drew BK1406.out)
            have n11_ := Aside0.mk (blk_drew BK1407.out)
            have n12_ := Aside0.mk (blk_drew BK1432.out)
            have n13_ := Aside0.mk (blk_drew BK1440.out)
            have n14_ := Aside0.mk (below_drew1 HB.out)
            clear HO1412
            clear HO1415
            clear HO1419
            clear HO1422
            clear HO1427
            clear HO1430
            clear HO1435
            clear HO1438
            clear HO1444
            clear HO1447
            clear BK1406
            clear BK1407
            clear BK1432
            clear BK1440
            clear HB
            have HO1412 := n0_
            have HO1415 := n1_
            have HO1419 := n2_
            have HO1422 := n3_
            have HO1427 := n4_
            have HO1430 := n5_
            have HO1435 := n6_
            have HO1438 := n7_
            have HO1444 := n8_
            have HO1447 := n9_
            have BK1406 := n10_
            have BK1407 := n11_
            have BK1432 := n12_
            have BK1440 := n13_
            have HB := n14_
            clear n0_ n1_ n2_ n3_ n4_ n5_ n6_ n7_ n8_ n9_ n10_ n11_ n12_ n13_ n14_
            refine start_ (n := 5) (S := fun w' => w'.cell? ⟨gb1440, 0, none⟩ = some (.slice Ao58 t1433.length co58) ∧ w'.cell? ⟨gb1440, 1, none⟩ = some (.slice Ao63 t1436.length co63) ∧ w'.cell? ⟨gb1440, 2, none⟩ = some (.int .i64 t1439) ∧ w'.cell? ⟨gb1407, 0, none⟩ = some (.slice A1_0 l1_0.length c1_0) ∧ w'.cell? ⟨gb1407, 1, none⟩ = some (.slice A1_1 l1_1.length c1_1) ∧ w'.cell? ⟨gb1407, 2, none⟩ = some (.int .i64 a1_2)) (ds := []) #[false, false, false, false, false] (by kernel_rfl) rfl rfl ⟨(blk_cell BK1440.out 0).trans rfl, (blk_cell BK1440.out 1).trans rfl, (blk_cell BK1440.out 2).trans rfl, (blk_cell BK1407.out 0).trans rfl, (blk_cell BK1407.out 1).trans rfl, (blk_cell BK1407.out 2).trans rfl⟩ (fun hHeld => ?_)
            generalize w70.drew = w71 at HO1412 HO1415 HO1419 HO1422 HO1427 HO1430 HO1435 HO1438 HO1444 HO1447 BK1406 BK1407 BK1432 BK1440 HB hHeld ⊢
            refine take_ (i := 0) (N := some 40) (v := ?_) (a' := ?_) #[true, false, false, false, false] rfl rfl (by kernel_rfl) (fun _ _ _ h => h) (Or.inl ⟨by rfl, ?_⟩) hHeld ?_ ?_
            rotate_left
            · rintro w' ⟨s0, s1, s2, s3, s4, s5⟩
              go_simp
              with_reducible rfl
            rotate_left
            · simp only [Act.put, List.setIfInBounds_toArray, List.set_cons_zero, List.set_cons_succ, i64_w, i32_w]
              rfl
            refine take_ (i := 1) (N := some 41) (v := ?_) (a' := ?_) #[true, true, false, false, false] rfl rfl (by kernel_rfl) (fun _ _ _ h => h) (Or.inl ⟨by rfl, ?_⟩) hHeld ?_ ?_
            rotate_left
            · rintro w' ⟨s0, s1, s2, s3, s4, s5⟩
              go_simp
              with_reducible rfl
            rotate_left
            · simp only [Act.put, List.setIfInBounds_toArray, List.set_cons_zero, List.set_cons_succ, i64_w, i32_w]
              rfl
            refine one_ (i := 2) (N := some 42) #[true, true, true, false, false] rfl rfl (by kernel_rfl) (by decide) (fun K hK => ?_)
            refine goes_ Try.func46 (by kernel_rfl) rfl #[.agg #[.slice A1_0 l1_0.length c1_0, .slice A1_1 l1_1.length c1_1, .int .i64 a1_2]] (by rfl) rfl rfl (by (try simp only [List.map_toArray, List.map_cons, List.map_nil]); first | done | rfl | (simp only [List.length_drop, List.length_take]; rfl)) ?_
            with_reducible refine (laws_toStore.calls k _ _ l1_0 _ _ l1_1 a1_2 t1450 t1453 t1456 _ ?side1 ?side2 ?side3 ?side4 A29.out).mono ?_
            (case side1 => repeat (first | exact (Kd.C_below HR1_0.out HB.out) | (with_reducible refine Kd.C_alloc ?_ _) | (with_reducible refine Kd.C_drewN ?_ _) | (with_reducible refine Kd.C_drew ?_)))
            (case side2 => exact HC1_0.out)
            (case side3 => repeat (first | exact (Kd.C_below HR1_1.out HB.out) | (with_reducible refine Kd.C_alloc ?_ _) | (with_reducible refine Kd.C_drewN ?_ _) | (with_reducible refine Kd.C_drew ?_)))
            (case side4 => exact HC1_1.out)
            rintro e w72 ⟨v1451, v1454, rfl, ho0, ho1, hb⟩
            refine ⟨_, rfl, ?_⟩
            have n0_ := Aside0.mk (Kd.R_elder' (by (with_reducible repeat (first | apply Kd.R_alloc | apply Kd.R_drewN | apply Kd.R_drew)); exact HO1412.out) (Kd.R_base ho0) hb)
            have n1_ := Aside0.mk (Kd.S_elder' (by (with_reducible repeat (first | apply Kd.S_alloc | apply Kd.S_drewN | apply Kd.S_drew)); exact HO1415.out) (Kd.S_base ho1) hb)
            have n2_ := Aside0.mk (Kd.R_elder' (by (with_reducible repeat (first | apply Kd.R_alloc | apply Kd.R_drewN | apply Kd.R_drew)); exact HO1419.out) (Kd.R_base ho0) hb)
            have n3_ := Aside0.mk (Kd.S_elder' (by (with_reducible repeat (first | apply Kd.S_alloc | apply Kd.S_drewN | apply Kd.S_drew)); exact HO1422.out) (Kd.S_base ho1) hb)
            have n4_ := Aside0.mk (Kd.R_elder' (by (with_reducible repeat (first | apply Kd.R_alloc | apply Kd.R_drewN | apply Kd.R_drew)); exact HO1427.out) (Kd.R_base ho0) hb)
            have n5_ := Aside0.mk (Kd.S_elder' (by (with_reducible repeat (first | apply Kd.S_alloc | apply Kd.S_drewN | apply Kd.S_drew)); exact HO1430.out) (Kd.S_base ho1) hb)
            have n6_ := Aside0.mk (Kd.R_elder' (by (with_reducible repeat (first | apply Kd.R_alloc | apply Kd.R_drewN | apply Kd.R_drew)); exact HO1435.out) (Kd.R_base ho0) hb)
            have n7_ := Aside0.mk (Kd.S_elder' (by (with_reducible repeat (first | apply Kd.S_alloc | apply Kd.S_drewN | apply Kd.S_drew)); exact HO1438.out) (Kd.S_base ho1) hb)
            have n8_ := Aside0.mk (Kd.R_elder' (by (with_reducible repeat (first | apply Kd.R_alloc | apply Kd.R_drewN | apply Kd.R_drew)); exact HO1444.out) (Kd.R_base ho0) hb)
            have n9_ := Aside0.mk (Kd.S_elder' (by (with_reducible repeat (first | apply Kd.S_alloc | apply Kd.S_drewN | apply Kd.S_drew)); exact HO1447.out) (Kd.S_base ho1) hb)
            have n10_ := Aside0.mk (Kd.R_lower (Kd.R_new' (Kd.R_new' (Kd.R_new' (Kd.R_new' (Kd.R_new' ho0 (Kd.R_lt (by (with_reducible repeat (first | apply Kd.R_alloc | apply Kd.R_drewN | apply Kd.R_drew)); exact HO1412.out))) (Kd.R_lt (by (with_reducible repeat (first | apply Kd.R_alloc | apply Kd.R_drewN | apply Kd.R_drew)); exact HO1419.out))) (Kd.R_lt (by (with_reducible repeat (first | apply Kd.R_alloc | apply Kd.R_drewN | apply Kd.R_drew)); exact HO1427.out))) (Kd.R_lt (by (with_reducible repeat (first | apply Kd.R_alloc | apply Kd.R_drewN | apply Kd.R_drew)); exact HO1435.out))) (Kd.R_lt (by (with_reducible repeat (first | apply Kd.R_alloc | apply Kd.R_drewN | apply Kd.R_drew)); exact HO1444.out))) (below_size (by repeat (first | (with_reducible first | exact HB.out | apply below_alloc | apply pw_below_drewN | apply below_drew1 | refine below_set ?_ GE1406.out | refine below_set ?_ GE1407.out | refine below_set ?_ GE1432.out | refine below_set ?_ GE1440.out) | exact HB.out))))
            have n11_ := Aside0.mk (Kd.S_lower (Kd.S_new' (Kd.S_new' (Kd.S_new' (Kd.S_new' (Kd.S_new' ho1 (Kd.S_lt (by (with_reducible repeat (first | apply Kd.S_alloc | apply Kd.S_drewN | apply Kd.S_drew)); exact HO1415.out))) (Kd.S_lt (by (with_reducible repeat (first | apply Kd.S_alloc | apply Kd.S_drewN | apply Kd.S_drew)); exact HO1422.out))) (Kd.S_lt (by (with_reducible repeat (first | apply Kd.S_alloc | apply Kd.S_drewN | apply Kd.S_drew)); exact HO1430.out))) (Kd.S_lt (by (with_reducible repeat (first | apply Kd.S_alloc | apply Kd.S_drewN | apply Kd.S_drew)); exact HO1438.out))) (Kd.S_lt (by (with_reducible repeat (first | apply Kd.S_alloc | apply Kd.S_drewN | apply Kd.S_drew)); exact HO1447.out))) (below_size (by repeat (first | (with_reducible first | exact HB.out | apply below_alloc | apply pw_below_drewN | apply below_drew1 | refine below_set ?_ GE1406.out | refine below_set ?_ GE1407.out | refine below_set ?_ GE1432.out | refine below_set ?_ GE1440.out) | exact HB.out))))
            have n12_ := Aside0.mk (blk_below (g := gb1406) (o := .cells #[.slice A0_0 l0_0.length c0_0, .slice A0_1 l0_1.length c0_1, .int .i64 a0_2] 78 (0, 0)) (by (with_reducible repeat (first | refine blk_drewN ?_ _ | refine blk_drew ?_ | refine blk_alloc ?_ _)); exact BK1406.out) hb)
            have n13_ := Aside0.mk (blk_below (g := gb1407) (o := .cells #[.slice A1_0 l1_0.length c1_0, .slice A1_1 l1_1.length c1_1, .int .i64 a1_2] 78 (0, 0)) (by (with_reducible repeat (first | refine blk_drewN ?_ _ | refine blk_drew ?_ | refine blk_alloc ?_ _)); exact BK1407.out) hb)
            have n14_ := Aside0.mk (blk_below (g := gb1432) (o := .cells #[.slice Ao50 t1425.length co50, .slice Ao54 t1428.length co54, .int .i64 t1431] 83 (0, 0)) (by (with_reducible repeat (first | refine blk_drewN ?_ _ | refine blk_drew ?_ | refine blk_alloc ?_ _)); exact BK1432.out) hb)
            have n15_ := Aside0.mk (blk_below (g := gb1440) (o := .cells #[.slice Ao58 t1433.length co58, .slice Ao63 t1436.length co63, .int .i64 t1439] 83 (0, 0)) (by (with_reducible repeat (first | refine blk_drewN ?_ _ | refine blk_drew ?_ | refine blk_alloc ?_ _)); exact BK1440.out) hb)
            have n16_ := Aside0.mk (below_step (by repeat (first | (with_reducible first | exact HB.out | apply below_alloc | apply pw_below_drewN | apply below_drew1 | refine below_set ?_ GE1406.out | refine below_set ?_ GE1407.out | refine below_set ?_ GE1432.out | refine below_set ?_ GE1440.out) | exact HB.out)) hb)
            clear HO1412
            clear HO1415
            clear HO1419
            clear HO1422
            clear HO1427
            clear HO1430
            clear HO1435
            clear HO1438
            clear HO1444
            clear HO1447
            clear BK1406
            clear BK1407
            clear BK1432
            clear BK1440
            clear HB
            have HO1412 := n0_
            have HO1415 := n1_
            have HO1419 := n2_
            have HO1422 := n3_
            have HO1427 := n4_
            have HO1430 := n5_
            have HO1435 := n6_
            have HO1438 := n7_
            have HO1444 := n8_
            have HO1447 := n9_
            have HO1452 := n10_
            have HO1455 := n11_
            have BK1406 := n12_
            have BK1407 := n13_
            have BK1432 := n14_
            have BK1440 := n15_
            have HB := n16_
            clear n0_ n1_ n2_ n3_ n4_ n5_ n6_ n7_ n8_ n9_ n10_ n11_ n12_ n13_ n14_ n15_ n16_
            (try clear hb)
            (try clear hb2)
            (try clear hk)
            (try clear hi)
            (try clear ho0)
            (try clear ho1)
            obtain ⟨Ao73, co73, eo73⟩ := Kd.R_slice HO1452.out
            (first | subst eo73 | (injection eo73 with f1_ f2_ f3_; have f4_ := f1_.symm; have f5_ := f3_.symm; clear f1_ f2_ f3_; subst f4_; subst f5_))
            obtain ⟨Ao74, co74, eo74⟩ := Kd.S_slice HO1455.out
            (first | subst eo74 | (injection eo74 with f1_ f2_ f3_; have f4_ := f1_.symm; have f5_ := f3_.symm; clear f1_ f2_ f3_; subst f4_; subst f5_))
            refine hK.out _ _ ⟨(blk_cell BK1440.out 0).trans rfl, (blk_cell BK1440.out 1).trans rfl, (blk_cell BK1440.out 2).trans rfl, (blk_cell BK1407.out 0).trans rfl, (blk_cell BK1407.out 1).trans rfl, (blk_cell BK1407.out 2).trans rfl⟩ (fun hHeld => ?_)
            clear hK K
            refine norm_ (a' := ?_) ?_ ?_
            rotate_left
            · show Act.put _ (some 42) _ = _
              simp only [Act.put, List.setIfInBounds_toArray, List.set_cons_zero, List.set_cons_succ, i64_w, i32_w]
              rfl
            refine one_ (i := 3) (N := some 43) #[true, true, true, true, false] rfl rfl (by kernel_rfl) (by decide) (fun K hK => ?_)
            refine goes_ Try.func48 (by kernel_rfl) rfl #[.agg #[.slice Ao58 t1433.length co58, .slice Ao63 t1436.length co63, .int .i64 t1439], .agg #[.slice Ao73 t1450.length co73, .slice Ao74 t1453.length co74, .int .i64 t1456]] (by rfl) rfl rfl (by (try simp only [List.map_toArray, List.map_cons, List.map_nil]); first | done | rfl | (simp only [List.length_drop, List.length_take]; rfl)) ?_
            with_reducible refine (laws_eqStore.calls k _ _ t1433 _ _ t1436 t1439 _ _ t1450 _ _ t1453 t1456 true _ ?side1 ?side2 ?side3 ?side4 ?side5 ?side6 ?side7 ?side8 A30.out).mono ?_
            (case side1 => repeat (first | exact (Kd.R_reads' HO1435.out).2.2 | (with_reducible refine Kd.C_alloc ?_ _) | (with_reducible refine Kd.C_drewN ?_ _) | (with_reducible refine Kd.C_drew ?_)))
            (case side2 => exact (Kd.R_reads' HO1435.out).2.1)
            (case side3 => repeat (first | exact (Kd.S_reads' HO1438.out).2.2 | (with_reducible refine Kd.C_alloc ?_ _) | (with_reducible refine Kd.C_drewN ?_ _) | (with_reducible refine Kd.C_drew ?_)))
            (case side4 => exact (Kd.S_reads' HO1438.out).2.1)
            (case side5 => repeat (first | exact (Kd.R_reads' HO1452.out).2.2 | (with_reducible refine Kd.C_alloc ?_ _) | (with_reducible refine Kd.C_drewN ?_ _) | (with_reducible refine Kd.C_drew ?_)))
            (case side6 => exact (Kd.R_reads' HO1452.out).2.1)
            (case side7 => repeat (first | exact (Kd.S_reads' HO1455.out).2.2 | (with_reducible refine Kd.C_alloc ?_ _) | (with_reducible refine Kd.C_drewN ?_ _) | (with_reducible refine Kd.C_drew ?_)))
            (case side8 => exact (Kd.S_reads' HO1455.out).2.1)
            rintro e w75 ⟨rfl, hb⟩
            refine ⟨_, rfl, ?_⟩
            have n0_ := Aside0.mk (Kd.R_below (by (with_reducible repeat (first | apply Kd.R_alloc | apply Kd.R_drewN | apply Kd.R_drew)); exact HO1412.out) hb)
            have n1_ := Aside0.mk (Kd.S_below (by (with_reducible repeat (first | apply Kd.S_alloc | apply Kd.S_drewN | apply Kd.S_drew)); exact HO1415.out) hb)
            have n2_ := Aside0.mk (Kd.R_below (by (with_reducible repeat (first | apply Kd.R_alloc | apply Kd.R_drewN | apply Kd.R_drew)); exact HO1419.out) hb)
            have n3_ := Aside0.mk (Kd.S_below (by (with_reducible repeat (first | apply Kd.S_alloc | apply Kd.S_drewN | apply Kd.S_drew)); exact HO1422.out) hb)
            have n4_ := Aside0.mk (Kd.R_below (by (with_reducible repeat (first | apply Kd.R_alloc | apply Kd.R_drewN | apply Kd.R_drew)); exact HO1427.out) hb)
            have n5_ := Aside0.mk (Kd.S_below (by (with_reducible repeat (first | apply Kd.S_alloc | apply Kd.S_drewN | apply Kd.S_drew)); exact HO1430.out) hb)
            have n6_ := Aside0.mk (Kd.R_below (by (with_reducible repeat (first | apply Kd.R_alloc | apply Kd.R_drewN | apply Kd.R_drew)); exact HO1435.out) hb)
            have n7_ := Aside0.mk (Kd.S_below (by (with_reducible repeat (first | apply Kd.S_alloc | apply Kd.S_drewN | apply Kd.S_drew)); exact HO1438.out) hb)
            have n8_ := Aside0.mk (Kd.R_below (by (with_reducible repeat (first | apply Kd.R_alloc | apply Kd.R_drewN | apply Kd.R_drew)); exact HO1444.out) hb)
            have n9_ := Aside0.mk (Kd.S_below (by (with_reducible repeat (first | apply Kd.S_alloc | apply Kd.S_drewN | apply Kd.S_drew)); exact HO1447.out) hb)
            have n10_ := Aside0.mk (Kd.R_below (by (with_reducible repeat (first | apply Kd.R_alloc | apply Kd.R_drewN | apply Kd.R_drew)); exact HO1452.out) hb)
            have n11_ := Aside0.mk (Kd.S_below (by (with_reducible repeat (first | apply Kd.S_alloc | apply Kd.S_drewN | apply Kd.S_drew)); exact HO1455.out) hb)
            have n12_ := Aside0.mk (blk_below (g := gb1406) (o := .cells #[.slice A0_0 l0_0.length c0_0, .slice A0_1 l0_1.length c0_1, .int .i64 a0_2] 78 (0, 0)) (by (with_reducible repeat (first | refine blk_drewN ?_ _ | refine blk_drew ?_ | refine blk_alloc ?_ _)); exact BK1406.out) hb)
            have n13_ := Aside0.mk (blk_below (g := gb1407) (o := .cells #[.slice A1_0 l1_0.length c1_0, .slice A1_1 l1_1.length c1_1, .int .i64 a1_2] 78 (0, 0)) (by (with_reducible repeat (first | refine blk_drewN ?_ _ | refine blk_drew ?_ | refine blk_alloc ?_ _)); exact BK1407.out) hb)
            have n14_ := Aside0.mk (blk_below (g := gb1432) (o := .cells #[.slice Ao50 t1425.length co50, .slice Ao54 t1428.length co54, .int .i64 t1431] 83 (0, 0)) (by (with_reducible repeat (first | refine blk_drewN ?_ _ | refine blk_drew ?_ | refine blk_alloc ?_ _)); exact BK1432.out) hb)
            have n15_ := Aside0.mk (blk_below (g := gb1440) (o := .cells #[.slice Ao58 t1433.length co58, .slice Ao63 t1436.length co63, .int .i64 t1439] 83 (0, 0)) (by (with_reducible repeat (first | refine blk_drewN ?_ _ | refine blk_drew ?_ | refine blk_alloc ?_ _)); exact BK1440.out) hb)
            have n16_ := Aside0.mk (below_step (by repeat (first | (with_reducible first | exact HB.out | apply below_alloc | apply pw_below_drewN | apply below_drew1 | refine below_set ?_ GE1406.out | refine below_set ?_ GE1407.out | refine below_set ?_ GE1432.out | refine below_set ?_ GE1440.out) | exact HB.out)) hb)
            clear HO1412
            clear HO1415
            clear HO1419
            clear HO1422
            clear HO1427
            clear HO1430
            clear HO1435
            clear HO1438
            clear HO1444
            clear HO1447
            clear HO1452
            clear HO1455
            clear BK1406
            clear BK1407
            clear BK1432
            clear BK1440
            clear HB
            have HO1412 := n0_
            have HO1415 := n1_
            have HO1419 := n2_
            have HO1422 := n3_
            have HO1427 := n4_
            have HO1430 := n5_
            have HO1435 := n6_
            have HO1438 := n7_
            have HO1444 := n8_
            have HO1447 := n9_
            have HO1452 := n10_
            have HO1455 := n11_
            have BK1406 := n12_
            have BK1407 := n13_
            have BK1432 := n14_
            have BK1440 := n15_
            have HB := n16_
            clear n0_ n1_ n2_ n3_ n4_ n5_ n6_ n7_ n8_ n9_ n10_ n11_ n12_ n13_ n14_ n15_ n16_
            (try clear hb)
            (try clear hb2)
            (try clear hk)
            (try clear hi)
            refine hK.out _ _ ⟨(blk_cell BK1440.out 0).trans rfl, (blk_cell BK1440.out 1).trans rfl, (blk_cell BK1440.out 2).trans rfl, (blk_cell BK1407.out 0).trans rfl, (blk_cell BK1407.out 1).trans rfl, (blk_cell BK1407.out 2).trans rfl⟩ (fun hHeld => ?_)
            clear hK K
            refine norm_ (a' := ?_) ?_ ?_
            rotate_left
            · show Act.put _ (some 43) _ = _
              simp only [Act.put, List.setIfInBounds_toArray, List.set_cons_zero, List.set_cons_succ, i64_w, i32_w]
              rfl
            refine pure_ (i := 4) (N := some 44) (v := ?_) (a' := ?_) #[true, true, true, true, true] rfl rfl (by kernel_rfl) (fun _ _ _ h => h) (Or.inl ⟨by rfl, ?_⟩) ?_ ?_
            rotate_left
            · intro w'
              go_simp
              with_reducible rfl
            rotate_left
            · simp only [Act.put, List.setIfInBounds_toArray, List.set_cons_zero, List.set_cons_succ, i64_w, i32_w]
              rfl
            refine done_ (by kernel_rfl) ?_
            try go_wp2
            go_ret
            exact ⟨by first | rfl | (simp [errW_none, errW_some] <;> rfl) | (simp [*, errW_none, errW_some] <;> rfl), by repeat (first | (with_reducible first | exact HB.out | apply below_alloc | apply pw_below_drewN | apply below_drew1 | refine below_set ?_ GE1406.out | refine below_set ?_ GE1407.out | refine below_set ?_ GE1432.out | refine below_set ?_ GE1440.out) | exact HB.out)⟩
          · replace c31 := Bool.eq_false_iff.mpr c31
            subst c31
            have H1 : (some false) = some r := by rw [if_neg (show ¬ (false = true) by decide)] at H; exact H
            clear H
            have H := H1
            clear H1
            exact absurd ((Option.some.inj H).trans hT.out) (by decide)
        · replace c28 := Bool.eq_false_iff.mpr c28
          subst c28
          have H1 : (some false) = some r := by rw [if_neg (show ¬ (false = true) by decide)] at H; exact H
          clear H
          have H := H1
          clear H1
          exact absurd ((Option.some.inj H).trans hT.out) (by decide)

end Go.Proofs.Ytdolplcbokioaaa.PB

/- What a law's arguments, read as data, are as the print's kinds. -/
namespace Go.Proofs.Ytdolplcbokioaaa.Open
open Go.RowKit Go.Proofs.YtdolplcbokioaaaW.PrintWords

/-- A datum that is read at type t is of kind d, and each such y meets wf. -/
def Opn {α : Type} (P : Program) (t : TypeId) (d : Kd α) (wf : α → Prop) : Prop :=
  ∀ (H : Type) (enc : TypeId × Value → H) (w : World) (base : Nat) (spare : Nat → Bool) (held : Bool) (fuel : Nat) (cs : List Value) (x : DataW H × List MemPlace),
    DataW.trod enc P w base spare held fuel t cs = some x → ∃ y : α, d.K w y cs ∧ wf y

theorem opn_int {P : Program} {t : TypeId} {k : IntKind} (hu : P.underlying t = some (.int k)) : Opn P t (Kd.int k) (fun n => (Lit.int k n).wf = true) := by
  intro H enc w base spare held fuel cs x h
  obtain ⟨n, rfl, _, hw⟩ := DataW.trod_int hu h
  exact ⟨n, rfl, hw⟩
theorem opn_bool {P : Program} {t : TypeId} (hu : P.underlying t = some .bool) : Opn P t Kd.bool (fun _ => True) := by
  intro H enc w base spare held fuel cs x h
  obtain ⟨n, rfl, _⟩ := DataW.trod_bool hu h
  exact ⟨n, rfl, trivial⟩
theorem opn_string {P : Program} {t : TypeId} (hu : P.underlying t = some .string) : Opn P t Kd.string (fun s => s.size ≤ maxLen) := by
  intro H enc w base spare held fuel cs x h
  obtain ⟨n, rfl, _, hw⟩ := DataW.trod_string hu h
  exact ⟨n, rfl, hw⟩
theorem choose_list {α : Type} {Q : Nat → α → Prop} : ∀ (n : Nat), (∀ i, i < n → ∃ y, Q i y) → ∃ ys : List α, ys.length = n ∧ ∀ i y, ys[i]? = some y → Q i y
  | 0, _ => ⟨[], rfl, fun i y h => by simp at h⟩
  | n + 1, h => by
    obtain ⟨ys, hl, hq⟩ := choose_list n (fun i hi => h i (by omega))
    obtain ⟨y, hy⟩ := h n (by omega)
    refine ⟨ys ++ [y], by simp [hl], fun i z hz => ?_⟩
    rcases Nat.lt_or_ge i ys.length with hi | hi
    · rw [List.getElem?_append_left hi] at hz
      exact hq i z hz
    · rw [List.getElem?_append_right hi] at hz
      have hi2 : i - ys.length = 0 := by
        have := (List.getElem?_eq_some_iff.1 hz).1
        simp at this
        omega
      rw [hi2] at hz
      have : i = n := by omega
      subst this
      simp at hz
      subst hz
      exact hy
theorem adds (a : Addr) (m n : Nat) : (a.add m).add n = a.add (m + n) := by
  unfold Addr.add
  by_cases h1 : m = 0 <;> by_cases h2 : n = 0 <;> simp_all [Nat.add_assoc]
theorem opn_slice {α : Type} {P : Program} {t e : TypeId} {d : Kd α} {wf : α → Prop} (hu : P.underlying t = some (.slice e)) (hc : P.cellsOf e = d.sz) (ho : Opn P e d wf) :
    Opn P t (Kd.slice e d) (fun xs => xs.length ≤ maxLen ∧ ∀ x ∈ xs, wf x) := by
  intro H enc w base spare held fuel cs x h
  rcases DataW.trod_slice hu h with ⟨rfl, _⟩ | ⟨a, len, cap, elems, rest, n, _, rfl, _, hb, hl, hm, hlen, hel, _, _⟩
  · refine ⟨[], ⟨none, 0, rfl, Nat.le_refl _, rfl, by simp, fun h0 => absurd h0 (by simp)⟩, by simp, fun x hx => absurd hx (by simp)⟩
  · have each : ∀ i, i < len → ∃ y : α, ∃ c : List Value, (c.length = d.sz ∧ d.K w y c ∧ ∀ j u, c[j]? = some u → w.cell? (a.add (i * d.sz + j)) = some u) ∧ wf y := by
      intro i hi
      have h1 := hel i hi
      rw [List.getElem?_eq_getElem (by omega), Option.bind_eq_some_iff, hc] at h1
      obtain ⟨c, h2, h3⟩ := h1
      obtain ⟨_, hcl, hcell⟩ := World.cells?_some h2
      obtain ⟨y, hk, hw⟩ := ho H enc w base spare held n c _ h3
      refine ⟨y, c, ⟨hcl, hk, fun j u hj => ?_⟩, hw⟩
      have hjl : j < c.length := (List.getElem?_eq_some_iff.1 hj).1
      rw [← adds, hcell j (by omega), hj]
    obtain ⟨ys, hyl, hys⟩ := choose_list len each
    have hml : len ≤ maxLen := Nat.le_trans hl hm
    refine ⟨ys, ⟨some a, cap, by rw [hyl], by rw [hyl]; exact hl, rfl, by rw [hyl]; simpa only [maxLen] using hml, fun _ => ⟨a, rfl, fun j p hj => ?_⟩⟩, by rw [hyl]; exact hml, fun y hy => ?_⟩
    · obtain ⟨c, hq, _⟩ := hys j p hj
      exact ⟨c, hq⟩
    · obtain ⟨j, hj, he⟩ := List.getElem_of_mem hy
      obtain ⟨_, _, hw⟩ := hys j y (by rw [List.getElem?_eq_getElem hj, he])
      exact hw

/-- The fields fs, read off the cells from off on, are of kind d. -/
def OpnF {α : Type} (P : Program) (fs : List Field) (off : Nat) (d : Kd α) (wf : α → Prop) : Prop :=
  ∀ (H : Type) (enc : TypeId × Value → H) (w : World) (base : Nat) (spare : Nat → Bool) (held : Bool) (fuel : Nat) (cs : List Value), cs.length = off + d.sz →
    (∀ f ∈ fs, ∃ x, DataW.trod enc P w base spare held fuel f.type ((cs.drop f.offset).take (P.cellsOf f.type)) = some x) → ∃ y : α, d.K w y (cs.drop off) ∧ wf y
theorem opnF_one {α : Type} {P : Program} {f : Field} {off : Nat} {d : Kd α} {wf : α → Prop} (hoff : f.offset = off) (hc : P.cellsOf f.type = d.sz) (ho : Opn P f.type d wf) : OpnF P [f] off d wf := by
  intro H enc w base spare held fuel cs hl h
  obtain ⟨x, hx⟩ := h f (by simp)
  obtain ⟨y, hk, hw⟩ := ho H enc w base spare held fuel _ x hx
  rw [hoff, hc, List.take_of_length_le (by rw [List.length_drop]; omega)] at hk
  exact ⟨y, hk, hw⟩
theorem opnF_cons {α β : Type} {P : Program} {f : Field} {fs : List Field} {off : Nat} {a : Kd α} {b : Kd β} {wa : α → Prop} {wb : β → Prop} (hoff : f.offset = off) (hc : P.cellsOf f.type = a.sz) (ho : Opn P f.type a wa) (hr : OpnF P fs (off + a.sz) b wb) :
    OpnF P (f :: fs) off (Kd.pair a b) (fun p => wa p.1 ∧ wb p.2) := by
  intro H enc w base spare held fuel cs hl h
  obtain ⟨x, hx⟩ := h f (by simp)
  obtain ⟨y, hk, hw⟩ := ho H enc w base spare held fuel _ x hx
  have hsz : (Kd.pair a b).sz = a.sz + b.sz := rfl
  obtain ⟨z, hk2, hw2⟩ := hr H enc w base spare held fuel cs (by omega) (fun g hg => h g (List.mem_cons_of_mem _ hg))
  rw [hoff, hc] at hk
  refine ⟨(y, z), ⟨(cs.drop off).take a.sz, cs.drop (off + a.sz), ?_, hk, hk2⟩, hw, hw2⟩
  rw [← List.drop_drop, List.take_append_drop]
theorem opn_tuple {α : Type} {P : Program} {t : TypeId} {fs : List Field} {d : Kd α} {wf : α → Prop} (hu : P.underlying t = some (.struct fs.toArray)) (hc : P.cellsOf t = d.sz) (ho : OpnF P fs 0 d wf) :
    Opn P t d wf := by
  intro H enc w base spare held fuel cs x h
  obtain ⟨xs, n, _, _, hl, hlen, hf⟩ := DataW.trod_struct hu h
  obtain ⟨y, hk, hw⟩ := ho H enc w base spare held n cs (by omega) (fun fl hfl => by
    obtain ⟨i, hi, he⟩ := List.getElem_of_mem hfl
    have h1 := hf i fl (by simpa using (List.getElem?_eq_getElem hi).trans (congrArg some he))
    have hlen2 : xs.length = fs.length := by simpa using hlen
    exact ⟨xs[i]'(by omega), by rw [h1, List.getElem?_eq_getElem]⟩)
  exact ⟨y, by simpa using hk, hw⟩
theorem opn_struct {α β : Type} {P : Program} {t : TypeId} {fs : List Field} {d : Kd α} {wf : α → Prop} (f : β → α) (g : α → β) (hfg : ∀ a, f (g a) = a) (hu : P.underlying t = some (.struct fs.toArray)) (hc : P.cellsOf t = d.sz) (ho : OpnF P fs 0 d wf) :
    Opn P t (Kd.iso d f) (fun y => wf (f y)) := by
  intro H enc w base spare held fuel cs x h
  obtain ⟨xs, n, _, _, hl, hlen, hf⟩ := DataW.trod_struct hu h
  obtain ⟨y, hk, hw⟩ := ho H enc w base spare held n cs (by omega) (fun fl hfl => by
    obtain ⟨i, hi, he⟩ := List.getElem_of_mem hfl
    have h1 := hf i fl (by simpa using (List.getElem?_eq_getElem hi).trans (congrArg some he))
    have hlen2 : xs.length = fs.length := by simpa using hlen
    exact ⟨xs[i]'(by omega), by rw [h1, List.getElem?_eq_getElem]⟩)
  exact ⟨g y, by show d.K w (f (g y)) cs; rw [hfg]; simpa using hk, by show wf (f (g y)); rw [hfg]; exact hw⟩
end Go.Proofs.Ytdolplcbokioaaa.Open

/- Plain facts on rounds, lists and whole numbers, for the pure statements. -/
namespace Go.Proofs.Ytdolplcbokioaaa.Pu
set_option linter.unusedVariables false
set_option linter.unusedSimpArgs false
open Go.RowKit Go.Proofs.YtdolplcbokioaaaW.PrintWords

theorem w64 {x : Int} (h1 : -9223372036854775808 ≤ x) (h2 : x ≤ 9223372036854775807) : wrap64 x = x := by
  unfold wrap64; omega
theorem wsucc {i n : Nat} (h : i < n) (hn : n ≤ 9223372036854775807) : wrap64 ((i : Int) + 1) = ((i + 1 : Nat) : Int) := by
  rw [w64 (by omega) (by omega)]; rfl
theorem wf_i64 {n : Int} (h : (Lit.int .i64 n).wf = true) : -9223372036854775808 ≤ n ∧ n ≤ 9223372036854775807 := by
  simp only [Lit.wf, Bool.and_eq_true, decide_eq_true_eq] at h
  have h1 : IntKind.min .i64 = -9223372036854775808 := by decide
  have h2 : IntKind.max .i64 = 9223372036854775807 := by decide
  omega

/-- Rounds: what is told, a step on. -/
theorem ev_some {α : Type} {g : Nat → Option α} {r : α} (h : ∀ k, g (k + 1) = some r) : Ev g r := Ev.step h (Ev.now r)
theorem ev_const {α : Type} {o : Option α} {r : α} (h : o = some r) : Ev (fun _ => o) r := ⟨0, fun _ _ => h⟩
theorem ev_bind {α β : Type} {g : Nat → Option α} {f : Nat → α → Option β} {a : α} {r : β} (h : Ev g a) (k : Ev (fun n => f n a) r) : Ev (fun n => (g n).bind (f n)) r := Ev.bind h k
theorem ev_uniq {α : Type} {g : Nat → Option α} {a b : α} (h : Ev g a) (k : Ev g b) : a = b := by
  obtain ⟨K, hK⟩ := h
  obtain ⟨M, hM⟩ := k
  have h1 := hK (max K M) (Nat.le_max_left _ _)
  rw [hM (max K M) (Nat.le_max_right _ _)] at h1
  injection h1 with h1
  exact h1.symm
theorem ev_ext {α : Type} {g f : Nat → Option α} {r : α} (h : ∀ k, g k = f k) (k : Ev f r) : Ev g r := Ev.congr h k

/-- A row that is made and filled, place by place. -/
theorem ev_fill {β : Type} {L : Nat → List β → Int → Option (List β)} {E : Nat → Int → Option β} {n : Nat} {e : Nat → β} (hn : n ≤ 9223372036854775807)
    (hs : ∀ k xs i, L (k + 1) xs i = if i < (n : Int) then (if 0 ≤ i then ((E k i).bind fun b => if i < (xs.length : Int) then L k (xs.set i.toNat b) (wrap64 (i + 1)) else none) else none) else some xs)
    (hE : ∀ i, i < n → Ev (fun k => E k (i : Int)) (e i)) :
    ∀ (d i : Nat) (xs : List β), xs.length = n → i + d = n → Ev (fun k => L k xs (i : Int)) (xs.take i ++ (List.range' i d).map e) := by
  intro d
  induction d with
  | zero =>
    intro i xs hl hi
    refine ev_some fun k => ?_
    rw [hs, if_neg (by omega)]
    simp [List.take_of_length_le (show xs.length ≤ i by omega)]
  | succ d ih =>
    intro i xs hl hi
    refine Ev.step (f := fun k => (E k (i : Int)).bind fun b => L k (xs.set i b) ((i + 1 : Nat) : Int)) (fun k => ?_) ?_
    · rw [hs, if_pos (by omega), if_pos (by omega), wsucc (n := n) (by omega) hn]
      congr 1
      funext b
      rw [if_pos (by omega)]
      rfl
    · refine ev_bind (hE i (by omega)) ?_
      have h := ih (i + 1) (xs.set i (e i)) (by rw [List.length_set]; exact hl) (by omega)
      have e1 : (xs.set i (e i)).take (i + 1) ++ (List.range' (i + 1) d).map e = xs.take i ++ (List.range' i (d + 1)).map e := by
        rw [List.range'_succ, List.map_cons, List.take_succ_eq_append_getElem (by rw [List.length_set]; omega), List.getElem_set_self, List.take_set_of_le (Nat.le_refl _)]
        simp
      rw [e1] at h
      exact h
theorem map_range {α β : Type} (l : List α) (z : α) (g : α → β) : (List.range' 0 l.length).map (fun i => g (l.getD i z)) = l.map g := by
  apply List.ext_getElem
  · simp
  · intro i h1 h2
    simp only [List.length_map] at h2
    simp [List.getD_eq_getElem?_getD, List.getElem?_eq_getElem h2]
theorem ev_fill_all {α β : Type} {L : Nat → List β → Int → Option (List β)} {E : Nat → Int → Option β} {l : List α} {z : α} {g : α → β} {xs : List β} (hn : l.length ≤ 9223372036854775807)
    (hs : ∀ k xs i, L (k + 1) xs i = if i < (l.length : Int) then (if 0 ≤ i then ((E k i).bind fun b => if i < (xs.length : Int) then L k (xs.set i.toNat b) (wrap64 (i + 1)) else none) else none) else some xs)
    (hE : ∀ i, i < l.length → Ev (fun k => E k (i : Int)) (g (l.getD i z))) (hx : xs.length = l.length) : Ev (fun k => L k xs 0) (l.map g) := by
  have h := ev_fill (e := fun i => g (l.getD i z)) hn hs hE l.length 0 xs hx (by omega)
  rw [map_range] at h
  simpa using h

/-- Every place meets a test, tried place by place. -/
theorem ev_all {L E : Nat → Int → Option Bool} {n m : Nat} (hn : n ≤ 9223372036854775807) (hnm : n ≤ m)
    (hs : ∀ k i, L (k + 1) i = if i < (n : Int) then (if 0 ≤ i then (if i < (m : Int) then ((E k i).bind fun b => if b = true then L k (wrap64 (i + 1)) else some false) else none) else none) else some true)
    (hE : ∀ i, i < n → Ev (fun k => E k (i : Int)) true) : ∀ (d i : Nat), i + d = n → Ev (fun k => L k (i : Int)) true := by
  intro d
  induction d with
  | zero => intro i hi; exact ev_some fun k => by rw [hs, if_neg (by omega)]
  | succ d ih =>
    intro i hi
    refine Ev.step (f := fun k => (E k (i : Int)).bind fun b => if b = true then L k ((i + 1 : Nat) : Int) else some false) (fun k => ?_) (ev_bind (hE i (by omega)) (by simpa using ih (i + 1) (by omega)))
    rw [hs, if_pos (by omega), if_pos (by omega), if_pos (by omega), wsucc (n := n) (by omega) hn]

/-- What is left of a number, place by place, as long as it is not below 0. -/
theorem ev_size {L E : Nat → Int → Int → Option Int} {n : Nat} {P : Nat → Prop} (hn : n ≤ 9223372036854775807)
    (hs : ∀ k a i, L (k + 1) a i = if i < (n : Int) then (if 0 ≤ i then ((E k i a).bind fun t => if t < 0 then some (-1) else L k t (wrap64 (i + 1))) else none) else some a)
    (hE : ∀ i a, i < n → 0 ≤ a → a ≤ 1048576 → ∃ t, Ev (fun k => E k (i : Int) a) t ∧ t ≤ a ∧ (0 ≤ t → P i)) :
    ∀ (d i : Nat) (a : Int), i + d = n → 0 ≤ a → a ≤ 1048576 → ∃ r, Ev (fun k => L k a (i : Int)) r ∧ r ≤ a ∧ (0 ≤ r → ∀ m, i ≤ m → m < n → P m) := by
  intro d
  induction d with
  | zero => intro i a hi h0 h1; exact ⟨a, ev_some fun k => by rw [hs, if_neg (by omega)], Int.le_refl _, fun _ m h2 h3 => by omega⟩
  | succ d ih =>
    intro i a hi h0 h1
    obtain ⟨t, ht, hta, hp⟩ := hE i a (by omega) h0 h1
    have hst : ∀ k, L (k + 1) a (i : Int) = (E k (i : Int) a).bind fun t => if t < 0 then some (-1) else L k t ((i + 1 : Nat) : Int) := fun k => by
      rw [hs, if_pos (by omega), if_pos (by omega), wsucc (n := n) (by omega) hn]
    by_cases hneg : t < 0
    · exact ⟨-1, Ev.step hst (ev_bind ht (by simp only [if_pos hneg]; exact Ev.now _)), by omega, fun h => by omega⟩
    · obtain ⟨r, hr, hra, hq⟩ := ih (i + 1) t (by omega) (by omega) (by omega)
      refine ⟨r, Ev.step hst (ev_bind ht (by simp only [if_neg hneg]; exact hr)), by omega, fun h0r m h2 h3 => ?_⟩
      by_cases e : m = i
      · subst e; exact hp (by omega)
      · exact hq h0r m (by omega) h3
end Go.Proofs.Ytdolplcbokioaaa.Pu

/- More plain facts on rounds: tests in a row, folds, searches. -/
namespace Go.Proofs.Ytdolplcbokioaaa.Pu
set_option linter.unusedVariables false
set_option linter.unusedSimpArgs false
open Go.RowKit Go.Proofs.YtdolplcbokioaaaW.PrintWords

/-- Tests in a row, one a round; then what comes. -/
theorem ev_scan {L : Nat → Int → Option Bool} {g : Nat → Option Bool} {n : Nat} {T : Nat → Bool} {r : Bool}
    (hs : ∀ k i, i < n → L (k + 1) (i : Int) = if T i = true then L k ((i + 1 : Nat) : Int) else some false) (he : ∀ k, L (k + 1) (n : Int) = g k) (hr : Ev g r) :
    ∀ (d i : Nat), i + d = n → Ev (fun k => L k (i : Int)) ((List.range' i d).all T && r) := by
  intro d
  induction d with
  | zero =>
    intro i hi
    obtain rfl : i = n := by omega
    exact Ev.step he hr
  | succ d ih =>
    intro i hi
    rw [List.range'_succ, List.all_cons]
    by_cases h : T i = true
    · rw [h, Bool.true_and]
      exact Ev.step (fun k => by rw [hs k i (by omega), if_pos h]) (ih (i + 1) (by omega))
    · rw [Bool.eq_false_iff.mpr h, Bool.false_and, Bool.false_and]
      exact ev_some fun k => by rw [hs k i (by omega), if_neg h]
/-- Tests in a row, each of many rounds; then what comes. -/
theorem ev_outer {L : Nat → Int → Option Bool} {n : Nat} {T : Nat → Bool} {r0 : Bool}
    (hs : ∀ i r, i < n → Ev (fun k => L k ((i + 1 : Nat) : Int)) r → Ev (fun k => L k (i : Int)) (T i && r)) (he : Ev (fun k => L k (n : Int)) r0) :
    ∀ (d i : Nat), i + d = n → Ev (fun k => L k (i : Int)) ((List.range' i d).all T && r0) := by
  intro d
  induction d with
  | zero =>
    intro i hi
    obtain rfl : i = n := by omega
    exact he
  | succ d ih =>
    intro i hi
    rw [List.range'_succ, List.all_cons, Bool.and_assoc]
    exact hs i _ (by omega) (ih (i + 1) (by omega))
/-- A state that is carried along; then what comes. -/
theorem ev_fold {σ ρ : Type} {L : Nat → σ → Int → Option ρ} {n : Nat} {F : σ → Nat → σ} {fin : σ → ρ} (Inv : Nat → σ → Prop)
    (hs : ∀ s i, i < n → Inv i s → ∀ r, Ev (fun k => L k (F s i) ((i + 1 : Nat) : Int)) r → Ev (fun k => L k s (i : Int)) r) (hi : ∀ s i, i < n → Inv i s → Inv (i + 1) (F s i))
    (he : ∀ s, Inv n s → Ev (fun k => L k s (n : Int)) (fin s)) : ∀ (d i : Nat) (s : σ), i + d = n → Inv i s → Ev (fun k => L k s (i : Int)) (fin ((List.range' i d).foldl F s)) := by
  intro d
  induction d with
  | zero =>
    intro i s h hv
    obtain rfl : i = n := by omega
    exact he s hv
  | succ d ih =>
    intro i s h hv
    rw [List.range'_succ, List.foldl_cons]
    exact hs s i (by omega) hv _ (ih (i + 1) (F s i) (by omega) (hi s i (by omega) hv))
/-- The first place that meets a test, -1 without one. -/
def findI (T : Nat → Bool) : Nat → Nat → Int
  | _, 0 => -1
  | i, d + 1 => if T i = true then (i : Int) else findI T (i + 1) d
theorem ev_find {L : Nat → Int → Option Int} {n : Nat} {T : Nat → Bool}
    (hy : ∀ i, i < n → T i = true → Ev (fun k => L k (i : Int)) (i : Int)) (hn : ∀ i, i < n → T i = false → ∀ r, Ev (fun k => L k ((i + 1 : Nat) : Int)) r → Ev (fun k => L k (i : Int)) r)
    (he : Ev (fun k => L k (n : Int)) (-1)) : ∀ (d i : Nat), i + d = n → Ev (fun k => L k (i : Int)) (findI T i d) := by
  intro d
  induction d with
  | zero =>
    intro i hi
    obtain rfl : i = n := by omega
    exact he
  | succ d ih =>
    intro i hi
    unfold findI
    by_cases h : T i = true
    · rw [if_pos h]; exact hy i (by omega) h
    · rw [if_neg h]; exact hn i (by omega) (Bool.eq_false_iff.mpr h) _ (ih (i + 1) (by omega))
theorem findI_range {T : Nat → Bool} : ∀ (d i : Nat), findI T i d = -1 ∨ ∃ j, i ≤ j ∧ j < i + d ∧ findI T i d = (j : Int) ∧ T j = true
  | 0, i => .inl rfl
  | d + 1, i => by
    unfold findI
    by_cases h : T i = true
    · rw [if_pos h]; exact .inr ⟨i, Nat.le_refl _, by omega, rfl, h⟩
    · rw [if_neg h]
      rcases findI_range d (i + 1) with h1 | ⟨j, h1, h2, h3, h4⟩
      · exact .inl h1
      · exact .inr ⟨j, by omega, by omega, h3, h4⟩
theorem bytes_empty (a : ByteArray) : (a.toList == ([] : List UInt8)) = decide ((a.size : Int) ≤ 0) := by
  rw [ByteArray.toList_eq]
  have h : a.data.toList.length = a.size := by rw [Array.length_toList]; rfl
  cases e : a.data.toList with
  | nil =>
    have h1 : a.size = 0 := by rw [← h, e]; rfl
    rw [decide_eq_true (by omega)]; rfl
  | cons x l =>
    have h1 : a.size = l.length + 1 := by rw [← h, e]; rfl
    rw [decide_eq_false (by omega)]; rfl
theorem getD_mem' {α : Type} {l : List α} {i : Nat} {z : α} (hi : i < l.length) : l.getD i z ∈ l := by
  rw [List.getD_eq_getElem?_getD, List.getElem?_eq_getElem hi]; exact List.getElem_mem hi
end Go.Proofs.Ytdolplcbokioaaa.Pu

/- What the functions on arenas answer: sizes, copies, comparison, and when an arena is right. -/
namespace Go.Proofs.Ytdolplcbokioaaa.Pu
set_option linter.unusedVariables false
set_option linter.unusedSimpArgs false
open Go.RowKit Go.Proofs.Ytdolplcbokioaaa.PB Go.Proofs.YtdolplcbokioaaaW.PrintWords

theorem rd_nat (l : List Int) (i : Nat) : rd l (i : Int) = l.getD i 0 := rfl
theorem rdLK_nat (l : List S175) (i : Nat) : rd_T175 l (i : Int) = l.getD i z175 := rfl
theorem rdIK_nat (l : List S133) (i : Nat) : rd_T133 l (i : Int) = l.getD i z133 := rfl

def toK (x : S175) : S133 := ⟨x.f0, x.f1⟩
def toA (l : List S175) : List S133 := l.map toK

theorem toIntS_ev (l : List Int) (h : l.length ≤ 35184372088832) : Ev (fun k => laws_toIntS.f k l) l := by
  have hn : l.length ≤ 9223372036854775807 := by omega
  have h1 := ev_fill_all (E := fun _ i => some (rd l i)) (l := l) (z := 0) (g := fun x => x) (xs := List.replicate l.length 0) (L := fun k xs i => laws_toIntS.l0 k l xs i) hn (fun k xs i => by
    simp only [laws_toIntS.l0, Option.bind_some]) (fun i _ => by rw [rd_nat]; exact Ev.now _) (by simp)
  rw [List.map_id'] at h1
  refine ev_ext (fun k => ?_) h1
  unfold laws_toIntS.f
  rw [if_pos (by omega), if_pos (by simpa using h)]
  simp
theorem toKnot_ev (b : Bool) (l : List Int) (h : l.length ≤ 35184372088832) : Ev (fun k => laws_toKnot.f k b l) (b, l) := by
  unfold laws_toKnot.f
  exact ev_bind (toIntS_ev l h) (Ev.now _)
theorem toKnotS_ev (l : List S175) (h : l.length ≤ 8796093022208) (hk : ∀ x ∈ l, x.f1.length ≤ 35184372088832) : Ev (fun k => laws_toKnotS.f k l) (toA l) := by
  have hn : l.length ≤ 9223372036854775807 := by omega
  have h1 := ev_fill_all (E := fun k i => (laws_toKnot.f k (rd_T175 l i).f0 (rd_T175 l i).f1).bind fun bt => some (⟨bt.1, bt.2⟩ : S133)) (l := l) (z := z175) (g := toK) (xs := List.replicate l.length z133) (L := fun k xs i => laws_toKnotS.l0 k l xs i) hn (fun k xs i => by
    simp only [laws_toKnotS.l0, Option.bind_assoc, Option.bind_some]) (fun i hi => by
      rw [rdLK_nat]
      have hm : l.getD i z175 ∈ l := by rw [List.getD_eq_getElem?_getD, List.getElem?_eq_getElem hi]; exact List.getElem_mem hi
      exact ev_bind (toKnot_ev _ _ (hk _ hm)) (Ev.now _)) (by simp)
  refine ev_ext (fun k => ?_) h1
  unfold laws_toKnotS.f
  rw [if_pos (by omega), if_pos (by simpa using h)]
  simp
theorem toArena_ev (l : List S175) (h : l.length ≤ 8796093022208) (hk : ∀ x ∈ l, x.f1.length ≤ 35184372088832) : Ev (fun k => laws_toArena.f k l) (toA l) := by
  unfold laws_toArena.f
  exact ev_bind (toKnotS_ev l h hk) (Ev.now _)

theorem eqIntS_ev (l : List Int) (hn : l.length ≤ 9223372036854775807) : Ev (fun k => laws_eqIntS.f k l l) true := by
  have h1 := ev_all (n := l.length) (m := l.length) (L := fun k i => laws_eqIntS.l0 k l l i) (E := fun _ _ => some true) hn (Nat.le_refl _) (fun k i => by simp [laws_eqIntS.l0]) (fun i _ => Ev.now _) l.length 0 (by omega)
  refine ev_ext (fun k => ?_) h1
  unfold laws_eqIntS.f
  rw [if_pos rfl]; rfl
theorem eqKnot_ev (b : Bool) (l : List Int) (hn : l.length ≤ 9223372036854775807) : Ev (fun k => laws_eqKnot.f k b l b l) true := by
  unfold laws_eqKnot.f
  simp only [bne_self_eq_false, Bool.false_eq_true, if_false]
  exact ev_bind (eqIntS_ev l hn) (by simp only [if_true]; exact Ev.now _)
theorem eqKnotS_ev (l : List S133) (hn : l.length ≤ 9223372036854775807) (hk : ∀ x ∈ l, x.f1.length ≤ 9223372036854775807) : Ev (fun k => laws_eqKnotS.f k l l) true := by
  have h1 := ev_all (n := l.length) (m := l.length) (L := fun k i => laws_eqKnotS.l0 k l l i) (E := fun k i => laws_eqKnot.f k (rd_T133 l i).f0 (rd_T133 l i).f1 (rd_T133 l i).f0 (rd_T133 l i).f1) hn (Nat.le_refl _) (fun k i => by simp only [laws_eqKnotS.l0]) (fun i hi => by
    rw [rdIK_nat]
    have hm : l.getD i z133 ∈ l := by rw [List.getD_eq_getElem?_getD, List.getElem?_eq_getElem hi]; exact List.getElem_mem hi
    exact eqKnot_ev _ _ (hk _ hm)) l.length 0 (by omega)
  refine ev_ext (fun k => ?_) h1
  unfold laws_eqKnotS.f
  rw [if_pos rfl]; rfl
theorem eqArena_ev (l : List S133) (hn : l.length ≤ 9223372036854775807) (hk : ∀ x ∈ l, x.f1.length ≤ 9223372036854775807) : Ev (fun k => laws_eqArena.f k l l) true := by
  unfold laws_eqArena.f
  exact ev_bind (eqKnotS_ev l hn hk) (by simp only [if_true]; exact Ev.now _)

theorem szIntS_eq (l : List Int) (a : Int) (h0 : 0 ≤ a) (h1 : a ≤ 1048576) (hn : l.length ≤ 9223372036854775807) : ∃ t, laws_szIntS.f l a = some t ∧ t ≤ a ∧ (0 ≤ t → (l.length : Int) ≤ a) := by
  unfold laws_szIntS.f
  rw [w64 (by omega) (by omega)]
  by_cases h : a - (l.length : Int) < 0
  · exact ⟨-1, by rw [if_pos h], by omega, fun h2 => by omega⟩
  · exact ⟨_, by rw [if_neg h], by omega, fun _ => by omega⟩
theorem szKnot_eq (b : Bool) (l : List Int) (a : Int) (h0 : 0 ≤ a) (h1 : a ≤ 1048576) (hn : l.length ≤ 9223372036854775807) : ∃ t, laws_szKnot.f b l a = some t ∧ t ≤ a ∧ (0 ≤ t → (l.length : Int) ≤ a) := by
  obtain ⟨t, ht, hta, hp⟩ := szIntS_eq l a h0 h1 hn
  unfold laws_szKnot.f
  rw [ht]
  simp only [Option.bind_some]
  by_cases h : t < 0
  · exact ⟨-1, by rw [if_pos h], by omega, fun h2 => by omega⟩
  · exact ⟨t, by rw [if_neg h], hta, hp⟩
theorem szKnotS_ev (l : List S175) (a : Int) (h0 : 0 ≤ a) (h1 : a ≤ 1048576) (hn : l.length ≤ 9223372036854775807) (hk : ∀ x ∈ l, x.f1.length ≤ 9223372036854775807) :
    ∃ r, Ev (fun k => laws_szKnotS.f k l a) r ∧ r ≤ a ∧ (0 ≤ r → (l.length : Int) ≤ a ∧ ∀ x ∈ l, (x.f1.length : Int) ≤ 1048576) := by
  by_cases h : a - (l.length : Int) < 0
  · refine ⟨-1, ⟨0, fun k _ => ?_⟩, by omega, fun h2 => by omega⟩
    show laws_szKnotS.f k l a = _
    unfold laws_szKnotS.f
    rw [w64 (by omega) (by omega), if_pos h]
  · obtain ⟨r, hr, hra, hq⟩ := ev_size (n := l.length) (L := fun k a i => laws_szKnotS.l0 k l a i) (E := fun _ i a => laws_szKnot.f (rd_T175 l i).f0 (rd_T175 l i).f1 a) (P := fun i => ((l.getD i z175).f1.length : Int) ≤ 1048576) hn (fun k a i => by simp only [laws_szKnotS.l0])
      (fun i a hi h2 h3 => by
        have hm : l.getD i z175 ∈ l := by rw [List.getD_eq_getElem?_getD, List.getElem?_eq_getElem hi]; exact List.getElem_mem hi
        obtain ⟨t, ht, hta, hp⟩ := szKnot_eq (rd_T175 l i).f0 (rd_T175 l i).f1 a h2 h3 (by rw [rdLK_nat]; exact hk _ hm)
        exact ⟨t, ev_const ht, hta, fun h4 => by have := hp h4; rw [rdLK_nat] at this; omega⟩) l.length 0 (a - (l.length : Int)) (by omega) (by omega) (by omega)
    refine ⟨r, ev_ext (fun k => ?_) hr, by omega, fun h2 => ⟨by omega, fun x hx => ?_⟩⟩
    · unfold laws_szKnotS.f
      rw [w64 (by omega) (by omega), if_neg h]; rfl
    · obtain ⟨i, hi, rfl⟩ := List.getElem_of_mem hx
      have := hq h2 i (by omega) hi
      rwa [List.getD_eq_getElem?_getD, List.getElem?_eq_getElem hi] at this
theorem szArena_ev (l : List S175) (a : Int) (h0 : 0 ≤ a) (h1 : a ≤ 1048576) (hn : l.length ≤ 9223372036854775807) (hk : ∀ x ∈ l, x.f1.length ≤ 9223372036854775807) :
    ∃ r, Ev (fun k => laws_szArena.f k l a) r ∧ r ≤ a ∧ (0 ≤ r → (l.length : Int) ≤ a ∧ ∀ x ∈ l, (x.f1.length : Int) ≤ 1048576) := by
  obtain ⟨r, hr, hra, hq⟩ := szKnotS_ev l a h0 h1 hn hk
  by_cases h : r < 0
  · exact ⟨-1, by unfold laws_szArena.f; exact ev_bind hr (by simp only [if_pos h]; exact Ev.now _), by omega, fun h2 => by omega⟩
  · exact ⟨r, by unfold laws_szArena.f; exact ev_bind hr (by simp only [if_neg h]; exact Ev.now _), hra, hq⟩
end Go.Proofs.Ytdolplcbokioaaa.Pu

/- When an arena is right, as one test; the program's and the reference's ArenaOk answer it. -/
namespace Go.Proofs.Ytdolplcbokioaaa.Pu
set_option linter.unusedVariables false
set_option linter.unusedSimpArgs false
open Go.RowKit Go.Proofs.Ytdolplcbokioaaa.PB Go.Proofs.YtdolplcbokioaaaW.PrintWords

theorem in_eq (a l h : Int) : impl_in.f a l h = some (decide (l ≤ a ∧ a ≤ h)) := by
  unfold impl_in.f
  by_cases h1 : a ≥ l
  · rw [if_pos h1]; congr 1; simp; omega
  · rw [if_neg h1]; congr 1; simp; omega
theorem l01In_eq (a l h : Int) : spec_l01In.f a l h = some (decide (l ≤ a ∧ a ≤ h)) := by
  unfold spec_l01In.f
  by_cases h1 : a ≥ l
  · rw [if_pos h1]; congr 1; simp; omega
  · rw [if_neg h1]; congr 1; simp; omega

/-- A kid of the knot at place i. -/
def kidB (l : List S133) (i : Nat) (leaf : Bool) (n : Int) : Bool :=
  if leaf = true then decide (0 ≤ n) else decide (n = -1) || (decide (0 ≤ n ∧ n ≤ (i : Int) - 1) && (l.getD n.toNat z133).f0)
def knotB (l : List S133) (i : Nat) (x : S133) : Bool := decide (x.f1.length = 4) && x.f1.all (kidB l i x.f0)
def arenaB (l : List S133) : Bool := (List.range' 0 l.length).all fun i => knotB l i (l.getD i z133)

theorem sArena_step (k : Nat) (kids : List Int) (i j : Nat) (a : List S133) (leaf : Bool) (hi : i < a.length) (hn : a.length ≤ 9223372036854775807) (hj : j < 4) (hk : kids.length = 4) :
    spec_ArenaOk.l1 (k + 1) i j a leaf kids = if kidB a i leaf (kids.getD j 0) = true then spec_ArenaOk.l1 k i ((j + 1 : Nat) : Int) a leaf kids else some false := by
  simp only [spec_ArenaOk.l1]
  rw [if_pos (by omega), if_pos (by omega), if_pos (by omega), wsucc (n := 4) hj (by omega), w64 (x := (i : Int) - 1) (by omega) (by omega), rd_nat]
  generalize kids.getD j 0 = n
  unfold kidB
  cases leaf with
  | true => by_cases h : n < 0 <;> simp [h] <;> omega
  | false =>
    simp only [Bool.false_eq_true, if_false, l01In_eq, Option.bind_some, decide_eq_true_eq]
    by_cases h1 : n = -1
    · simp [h1]
    · by_cases h2 : 0 ≤ n ∧ n ≤ (i : Int) - 1
      · rw [if_neg h1, if_pos h2, if_pos h2.1, if_pos (by omega)]
        simp [h1, h2, rd_T133]
      · simp [h1, h2]
theorem iArena_step (k : Nat) (kids : List Int) (i j : Nat) (a : List S133) (leaf : Bool) (hi : i < a.length) (hn : a.length ≤ 9223372036854775807) (hj : j < 4) (hk : kids.length = 4) :
    impl_ArenaOk.l1 (k + 1) i a a.length i kids kids.length j a leaf kids = if kidB a i leaf (kids.getD j 0) = true then impl_ArenaOk.l1 k i a a.length i kids kids.length ((j + 1 : Nat) : Int) a leaf kids else some false := by
  simp only [impl_ArenaOk.l1]
  rw [if_pos (by omega), if_pos (by omega), if_pos (by omega), wsucc (n := 4) hj (by omega), w64 (x := (i : Int) - 1) (by omega) (by omega), rd_nat]
  generalize kids.getD j 0 = n
  unfold kidB
  cases leaf with
  | true => by_cases h : n < 0 <;> simp [h] <;> omega
  | false =>
    simp only [Bool.false_eq_true, if_false, in_eq, Option.bind_some, decide_eq_true_eq]
    by_cases h1 : n = -1
    · simp [h1]
    · by_cases h2 : 0 ≤ n ∧ n ≤ (i : Int) - 1
      · rw [if_neg h1, if_pos h2, if_pos h2.1, if_pos (by omega)]
        simp [h1, h2, rd_T133]
      · simp [h1, h2]
/-- The kids of one knot, tried in order; then what comes. -/
theorem ev_kids {L : Nat → Int → Option Bool} {g : Nat → Option Bool} {kids : List Int} {T : Int → Bool} {r : Bool} (hk : kids.length = 4)
    (hs : ∀ k j, j < 4 → L (k + 1) ((j : Nat) : Int) = if T (kids.getD j 0) = true then L k ((j + 1 : Nat) : Int) else some false) (he : ∀ k, L (k + 1) 4 = g k) (hr : Ev g r) :
    ∀ (d j : Nat), j + d = 4 → Ev (fun k => L k (j : Int)) ((kids.drop j).all T && r) := by
  intro d
  induction d with
  | zero =>
    intro j hj
    obtain rfl : j = 4 := by omega
    refine Ev.step (f := g) (fun k => he k) ?_
    rw [List.drop_eq_nil_of_le (by omega)]
    exact hr
  | succ d ih =>
    intro j hj
    have hjl : j < kids.length := by omega
    rw [List.drop_eq_getElem_cons hjl, List.all_cons]
    have e : kids.getD j 0 = kids[j] := by rw [List.getD_eq_getElem?_getD, List.getElem?_eq_getElem hjl]; rfl
    by_cases h : T kids[j] = true
    · rw [h, Bool.true_and]
      exact Ev.step (f := fun k => L k ((j + 1 : Nat) : Int)) (fun k => by rw [hs k j (by omega), e, if_pos h]) (ih (j + 1) (by omega))
    · rw [Bool.eq_false_iff.mpr h, Bool.false_and, Bool.false_and]
      exact ev_some fun k => by rw [hs k j (by omega), e, if_neg h]
theorem sArena_ev (a : List S133) (hn : a.length ≤ 9223372036854775807) : Ev (fun k => spec_ArenaOk.f k a) (arenaB a) := by
  have main : ∀ (d i : Nat), i + d = a.length → Ev (fun k => spec_ArenaOk.l0 k (i : Int) a) ((List.range' i d).all fun i => knotB a i (a.getD i z133)) := by
    intro d
    induction d with
    | zero => intro i hi; exact ev_some fun k => by simp only [spec_ArenaOk.l0]; rw [if_neg (by omega)]; rfl
    | succ d ih =>
      intro i hi
      rw [List.range'_succ, List.all_cons]
      unfold knotB
      by_cases h4 : (a.getD i z133).f1.length = 4
      · rw [decide_eq_true h4, Bool.true_and]
        have h := ev_kids (L := fun k j => spec_ArenaOk.l1 k i j a (a.getD i z133).f0 (a.getD i z133).f1) (T := kidB a i (a.getD i z133).f0) h4 (fun k j hj => sArena_step k (a.getD i z133).f1 i j a _ (by omega) hn hj h4)
          (g := fun k => spec_ArenaOk.l0 k ((i + 1 : Nat) : Int) a) (fun k => by simp only [spec_ArenaOk.l1]; rw [if_neg (by omega), wsucc (n := a.length) (by omega) hn]) (ih (i + 1) (by omega)) 4 0 rfl
        refine Ev.step (fun k => ?_) h
        simp only [spec_ArenaOk.l0]
        rw [if_pos (by omega), if_pos (by omega), rdIK_nat, if_pos (by omega)]
        rfl
      · rw [decide_eq_false h4, Bool.false_and, Bool.false_and]
        refine ev_some fun k => ?_
        simp only [spec_ArenaOk.l0]
        rw [if_pos (by omega), if_pos (by omega), rdIK_nat, if_neg (by omega)]
  exact main a.length 0 (by omega)
theorem iArena_ev (a : List S133) (hn : a.length ≤ 9223372036854775807) : Ev (fun k => impl_ArenaOk.f k a) (arenaB a) := by
  have main : ∀ (d i : Nat), i + d = a.length → Ev (fun k => impl_ArenaOk.l0 k a a.length (i : Int) a) ((List.range' i d).all fun i => knotB a i (a.getD i z133)) := by
    intro d
    induction d with
    | zero => intro i hi; exact ev_some fun k => by simp only [impl_ArenaOk.l0]; rw [if_neg (by omega)]; rfl
    | succ d ih =>
      intro i hi
      rw [List.range'_succ, List.all_cons]
      unfold knotB
      by_cases h4 : (a.getD i z133).f1.length = 4
      · rw [decide_eq_true h4, Bool.true_and]
        have h := ev_kids (L := fun k j => impl_ArenaOk.l1 k i a a.length i (a.getD i z133).f1 (a.getD i z133).f1.length j a (a.getD i z133).f0 (a.getD i z133).f1) (T := kidB a i (a.getD i z133).f0) h4 (fun k j hj => iArena_step k (a.getD i z133).f1 i j a _ (by omega) hn hj h4)
          (g := fun k => impl_ArenaOk.l0 k a a.length ((i + 1 : Nat) : Int) a) (fun k => by simp only [impl_ArenaOk.l1]; rw [if_neg (by omega), wsucc (n := a.length) (by omega) hn]) (ih (i + 1) (by omega)) 4 0 rfl
        refine Ev.step (fun k => ?_) h
        simp only [impl_ArenaOk.l0]
        rw [if_pos (by omega), if_pos (by omega), if_pos (by omega), rdIK_nat, if_pos (by omega)]
        rfl
      · rw [decide_eq_false h4, Bool.false_and, Bool.false_and]
        refine ev_some fun k => ?_
        simp only [impl_ArenaOk.l0]
        rw [if_pos (by omega), if_pos (by omega), if_pos (by omega), rdIK_nat, if_neg (by omega)]
  exact main a.length 0 (by omega)
end Go.Proofs.Ytdolplcbokioaaa.Pu

/- The number of a sector of a tree, as one function; the program's and the reference's GetAt answer it. -/
namespace Go.Proofs.Ytdolplcbokioaaa.Pu
set_option linter.unusedVariables false
set_option linter.unusedSimpArgs false
open Go.RowKit Go.Proofs.Ytdolplcbokioaaa.PB Go.Proofs.YtdolplcbokioaaaW.PrintWords

def rootB (a : List S133) (r : Int) : Bool := decide (0 ≤ r ∧ r ≤ (a.length : Int) - 1) && !(a.getD r.toNat z133).f0
def numB (a : List S133) (r s : Int) : Int := if (a.getD r.toNat z133).f1.getD (s / 4).toNat 0 < 0 then 0 else (a.getD ((a.getD r.toNat z133).f1.getD (s / 4).toNat 0).toNat z133).f1.getD (s % 4).toNat 0
def getB (a : List S133) (r s : Int) : Int := if (0 ≤ s ∧ s ≤ 15) ∧ rootB a r = true ∧ arenaB a = true then numB a r s else 0

theorem knot_of {a : List S133} (h : arenaB a = true) {i : Nat} (hi : i < a.length) : (a.getD i z133).f1.length = 4 ∧ ∀ n ∈ (a.getD i z133).f1, kidB a i (a.getD i z133).f0 n = true := by
  unfold arenaB at h
  rw [List.all_eq_true] at h
  have h1 := h i (by simp; omega)
  unfold knotB at h1
  rw [Bool.and_eq_true, decide_eq_true_eq, List.all_eq_true] at h1
  exact h1
theorem getD_mem {α : Type} {l : List α} {i : Nat} {z : α} (hi : i < l.length) : l.getD i z ∈ l := by
  rw [List.getD_eq_getElem?_getD, List.getElem?_eq_getElem hi]; exact List.getElem_mem hi
/-- A kid of a knot that is no leaf: -1, or the place of a leaf. -/
theorem kid_of {a : List S133} (h : arenaB a = true) {r : Nat} (hr : r < a.length) (hf : (a.getD r z133).f0 = false) {j : Nat} (hj : j < 4) :
    (a.getD r z133).f1.getD j 0 = -1 ∨ (0 ≤ (a.getD r z133).f1.getD j 0 ∧ (a.getD r z133).f1.getD j 0 < r ∧ (a.getD ((a.getD r z133).f1.getD j 0).toNat z133).f0 = true) := by
  obtain ⟨h4, hk⟩ := knot_of h hr
  have h1 := hk _ (getD_mem (i := j) (z := 0) (by omega))
  unfold kidB at h1
  rw [hf] at h1
  simp only [Bool.false_eq_true, if_false, Bool.or_eq_true, decide_eq_true_eq, Bool.and_eq_true] at h1
  rcases h1 with h1 | ⟨h1, h2⟩
  · exact .inl h1
  · exact .inr ⟨h1.1, by omega, h2⟩
theorem iRoot_eq (a : List S133) (r : Int) (hn : a.length ≤ 9223372036854775807) : impl_isRoot.f a r = some (rootB a r) := by
  unfold impl_isRoot.f rootB
  rw [w64 (by omega) (by omega), in_eq]
  simp only [Option.bind_some]
  by_cases h : 0 ≤ r ∧ r ≤ (a.length : Int) - 1
  · rw [decide_eq_true h, if_pos rfl, if_pos h.1, if_pos (by omega), Bool.true_and]; rfl
  · rw [decide_eq_false h, if_neg (by decide), Bool.false_and]
theorem sRoot_eq (a : List S133) (r : Int) (hn : a.length ≤ 9223372036854775807) : spec_l11Root.f a r = some (decide (r = -1) || rootB a r) := by
  unfold spec_l11Root.f rootB
  by_cases h0 : r = -1
  · rw [if_pos h0, decide_eq_true h0, Bool.true_or]
  · rw [if_neg h0, decide_eq_false h0, Bool.false_or, w64 (by omega) (by omega), l01In_eq]
    simp only [Option.bind_some]
    by_cases h : 0 ≤ r ∧ r ≤ (a.length : Int) - 1
    · rw [decide_eq_true h, if_pos rfl, if_pos h.1, if_pos (by omega), Bool.true_and]; rfl
    · rw [decide_eq_false h, if_neg (by decide), Bool.false_and]
theorem div4 {s : Int} (h0 : 0 ≤ s) (h1 : s ≤ 15) : wrap64 (Int.tdiv s 4) = s / 4 ∧ Int.tmod s 4 = s % 4 ∧ 0 ≤ s / 4 ∧ s / 4 < 4 ∧ 0 ≤ s % 4 ∧ s % 4 < 4 := by
  rw [Int.tdiv_eq_ediv_of_nonneg h0, Int.tmod_eq_emod_of_nonneg h0, w64 (by omega) (by omega)]
  omega
theorem root_lt {a : List S133} {r : Int} (h : rootB a r = true) : 0 ≤ r ∧ r.toNat < a.length ∧ (a.getD r.toNat z133).f0 = false := by
  unfold rootB at h
  rw [Bool.and_eq_true, decide_eq_true_eq, Bool.not_eq_true'] at h
  exact ⟨h.1.1, by omega, h.2⟩
theorem iNumber_eq (a : List S133) (r s : Int) (ha : arenaB a = true) (hr : rootB a r = true) (h0 : 0 ≤ s) (h1 : s ≤ 15) : impl_numberAt.f a r s = some (numB a r s) := by
  obtain ⟨r0, rl, rf⟩ := root_lt hr
  obtain ⟨d1, d2, d3, d4, d5, d6⟩ := div4 h0 h1
  have h4 := (knot_of ha rl).1
  have hk := kid_of ha rl rf (j := (s / 4).toNat) (by omega)
  unfold impl_numberAt.f numB
  simp only [d1, d2]
  show (if 0 ≤ r then if r < (a.length : Int) then if 0 ≤ s / 4 then if s / 4 < (((a.getD r.toNat z133).f1.length : Nat) : Int) then if (a.getD r.toNat z133).f1.getD (s / 4).toNat 0 < 0 then some 0 else if 0 ≤ (a.getD r.toNat z133).f1.getD (s / 4).toNat 0 then if (a.getD r.toNat z133).f1.getD (s / 4).toNat 0 < (a.length : Int) then if 0 ≤ s % 4 then if s % 4 < (((a.getD ((a.getD r.toNat z133).f1.getD (s / 4).toNat 0).toNat z133).f1.length : Nat) : Int) then some ((a.getD ((a.getD r.toNat z133).f1.getD (s / 4).toNat 0).toNat z133).f1.getD (s % 4).toNat 0) else none else none else none else none else none else none else none else none) = _
  rw [if_pos r0, if_pos (by omega), if_pos d3, if_pos (by omega)]
  rcases hk with hk | ⟨k0, k1, _⟩
  · rw [if_pos (by omega), if_pos (by omega)]
  · have h5 := (knot_of ha (i := ((a.getD r.toNat z133).f1.getD (s / 4).toNat 0).toNat) (by omega)).1
    rw [if_neg (by omega), if_pos k0, if_pos (by omega), if_pos d5, if_pos (by omega), if_neg (by omega)]
theorem sGet_eq (a : List S133) (r s : Int) (ha : arenaB a = true) (hr : rootB a r = true) (h0 : 0 ≤ s) (h1 : s ≤ 15) : spec_l11Get.f a r s = some (numB a r s) := by
  obtain ⟨r0, rl, rf⟩ := root_lt hr
  have h := iNumber_eq a r s ha hr h0 h1
  unfold impl_numberAt.f at h
  unfold spec_l11Get.f
  rw [if_neg (by omega)]
  exact h
theorem iGetAt_ev (a : List S133) (r s : Int) (hn : a.length ≤ 9223372036854775807) : Ev (fun k => impl_GetAt.f k a r s) (getB a r s) := by
  unfold impl_GetAt.f getB
  simp only [in_eq, iRoot_eq a r hn, Option.bind_some, decide_eq_true_eq]
  by_cases h1 : 0 ≤ s ∧ s ≤ 15
  · by_cases h2 : rootB a r = true
    · simp only [if_pos h1, if_pos h2]
      refine ev_bind (iArena_ev a hn) ?_
      by_cases h3 : arenaB a = true
      · simp only [if_pos h3, if_pos (show (0 ≤ s ∧ s ≤ 15) ∧ rootB a r = true ∧ arenaB a = true from ⟨h1, h2, h3⟩)]
        rw [iNumber_eq a r s h3 h2 h1.1 h1.2]
        exact Ev.now _
      · simp only [if_neg h3, if_neg (show ¬ ((0 ≤ s ∧ s ≤ 15) ∧ rootB a r = true ∧ arenaB a = true) from fun h => h3 h.2.2)]
        exact Ev.now _
    · simp only [if_pos h1, if_neg h2, if_neg (show ¬ ((0 ≤ s ∧ s ≤ 15) ∧ rootB a r = true ∧ arenaB a = true) from fun h => h2 h.2.1)]
      exact Ev.now _
  · simp only [if_neg h1, if_neg (show ¬ ((0 ≤ s ∧ s ≤ 15) ∧ rootB a r = true ∧ arenaB a = true) from fun h => h1 h.1)]
    exact Ev.now _
theorem sGetAt_ev (a : List S133) (r s : Int) (hn : a.length ≤ 9223372036854775807) : Ev (fun k => spec_GetAt.f k a r s) (getB a r s) := by
  unfold spec_GetAt.f getB
  refine ev_bind (sArena_ev a hn) ?_
  by_cases h3 : arenaB a = true
  · simp only [if_pos h3, l01In_eq, sRoot_eq a r hn, Option.bind_some]
    by_cases h2 : rootB a r = true
    · simp only [h2, Bool.or_true, if_true]
      by_cases h1 : 0 ≤ s ∧ s ≤ 15
      · simp only [decide_eq_true h1, if_true, if_pos (show (0 ≤ s ∧ s ≤ 15) ∧ True ∧ arenaB a = true from ⟨h1, trivial, h3⟩)]
        rw [sGet_eq a r s h3 h2 h1.1 h1.2]
        exact Ev.now _
      · simp only [decide_eq_false h1, Bool.false_eq_true, if_false, if_neg (show ¬ ((0 ≤ s ∧ s ≤ 15) ∧ True ∧ arenaB a = true) from fun h => h1 h.1)]
        exact Ev.now _
    · have e : getB a r s = 0 := by unfold getB; exact if_neg fun h => h2 h.2.1
      unfold getB at e
      rw [e]
      by_cases h0 : r = -1
      · simp only [decide_eq_true h0, Bool.true_or, if_true]
        by_cases h1 : 0 ≤ s ∧ s ≤ 15
        · simp only [decide_eq_true h1, if_true]
          unfold spec_l11Get.f
          simp only [if_pos (show r < 0 by omega), Option.bind_some]
          exact Ev.now _
        · simp only [decide_eq_false h1, Bool.false_eq_true, if_false]
          exact Ev.now _
      · simp only [decide_eq_false h0, Bool.eq_false_iff.mpr h2, Bool.or_self, Bool.false_eq_true, if_false]
        exact Ev.now _
  · simp only [if_neg h3, if_neg (show ¬ ((0 ≤ s ∧ s ≤ 15) ∧ rootB a r = true ∧ arenaB a = true) from fun h => h3 h.2.2)]
    exact Ev.now _
end Go.Proofs.Ytdolplcbokioaaa.Pu

/- The numbers of all sectors of a tree, as one list; the program's and the reference's AllAt tell it. -/
namespace Go.Proofs.Ytdolplcbokioaaa.Pu
set_option linter.unusedVariables false
set_option linter.unusedSimpArgs false
open Go.RowKit Go.Proofs.Ytdolplcbokioaaa.PB Go.Proofs.YtdolplcbokioaaaW.PrintWords

def allB (a : List S133) (r : Int) : List Int := (List.range' 0 16).map fun (i : Nat) => getB a r (i : Int)
theorem allB_len (a : List S133) (r : Int) : (allB a r).length = 16 := by simp [allB]
theorem allB_get (a : List S133) (r : Int) {i : Nat} (hi : i < 16) : (allB a r).getD i 0 = getB a r (i : Int) := by
  rw [List.getD_eq_getElem?_getD, List.getElem?_eq_getElem (by rw [allB_len]; exact hi)]
  simp [allB]
theorem iAllAt_ev (a : List S133) (r : Int) (hn : a.length ≤ 9223372036854775807) : Ev (fun k => impl_AllAt.f k a r) (allB a r) := by
  have main : ∀ (d i : Nat) (acc : List Int), i + d = 16 → acc.length = i → Ev (fun k => impl_AllAt.l0 k r acc (i : Int) a) (acc ++ (List.range' i d).map fun (i : Nat) => getB a r (i : Int)) := by
    intro d
    induction d with
    | zero => intro i acc hi hl; exact ev_some fun k => by simp only [impl_AllAt.l0]; rw [if_neg (by omega)]; simp
    | succ d ih =>
      intro i acc hi hl
      have h := ih (i + 1) (acc ++ [getB a r (i : Int)]) (by omega) (by simp; omega)
      rw [List.append_assoc, List.singleton_append] at h
      rw [List.range'_succ, List.map_cons]
      refine Ev.step (f := fun k => (impl_GetAt.f k a r (i : Int)).bind fun t => impl_AllAt.l0 k r (acc ++ [t]) ((i + 1 : Nat) : Int) a) (fun k => ?_) (ev_bind (iGetAt_ev a r i hn) h)
      simp only [impl_AllAt.l0]
      rw [if_pos (by omega), wsucc (n := 16) (by omega) (by omega)]
      simp only [if_pos (show acc.length < 17592186044416 by omega)]
  exact main 16 0 [] rfl rfl
theorem sAllAt_ev (a : List S133) (r : Int) (hn : a.length ≤ 9223372036854775807) : Ev (fun k => spec_AllAt.f k a r) (allB a r) := by
  have main : ∀ (d i : Nat) (acc : List Int), i + d = 16 → acc.length = i → Ev (fun k => spec_AllAt.l0 k r acc (i : Int) a) (acc ++ (List.range' i d).map fun (i : Nat) => getB a r (i : Int)) := by
    intro d
    induction d with
    | zero => intro i acc hi hl; exact ev_some fun k => by simp only [spec_AllAt.l0]; rw [if_neg (by omega)]; simp
    | succ d ih =>
      intro i acc hi hl
      have h := ih (i + 1) (acc ++ [getB a r (i : Int)]) (by omega) (by simp; omega)
      rw [List.append_assoc, List.singleton_append] at h
      rw [List.range'_succ, List.map_cons]
      refine Ev.step (f := fun k => (spec_GetAt.f k a r (i : Int)).bind fun t => spec_AllAt.l0 k r (acc ++ [t]) ((i + 1 : Nat) : Int) a) (fun k => ?_) (ev_bind (sGetAt_ev a r i hn) h)
      simp only [spec_AllAt.l0]
      rw [if_pos (by omega), wsucc (n := 16) (by omega) (by omega)]
      simp only [if_pos (show acc.length < 17592186044416 by omega)]
  exact main 16 0 [] rfl rfl
theorem drop_get {α : Type} {l : List α} {i : Nat} (z : α) (h : i < l.length) : l.drop i = l.getD i z :: l.drop (i + 1) := by
  rw [List.drop_eq_getElem_cons h, List.getD_eq_getElem?_getD, List.getElem?_eq_getElem h]; rfl
end Go.Proofs.Ytdolplcbokioaaa.Pu

/- Functions of the translation as plain Lean functions, and for each that its call comes to just what its Lean function answers; its conditions stand in each theorem. Written by a program of this session. -/
namespace Go.Proofs.Ytdolplcbokioaaa.PB
open Go.RowKit Go.Proofs.YtdolplcbokioaaaW.PrintWords Go.Proofs.YtdolplcbokioaaaW.PrintLast Go.Proofs.YtdolplcbokioaaaW.PrintMore
attribute [local go_sem] max2_int min2_int max_two min_two max_three min_three max_four min_four   -- for this text's walks alone
set_option linter.unusedVariables false
set_option linter.unusedSimpArgs false

/-! ### spec_l12At: function 113 -/
def spec_l12At.l0 : Nat → Int → Int → List (S147) → List (S133) → Int → Option (Int)
  | 0, _, _, _, _, _ => none
  | k + 1, x1, x5, x1071000, x1071001, x1071002 => if x5 < (x1071000.length : Int) then (if 0 ≤ x5 then (if ((rd_T147 x1071000 x5).f0) = x1 then (some x5) else (spec_l12At.l0 k x1 (wrap64 (x5 + 1)) x1071000 x1071001 x1071002)) else (none)) else (some (-1))
def spec_l12At.f (k : Nat) (l0_0 : List (S147)) (l0_1 : List (S133)) (a0_2 : Int) (a1 : Int) : Option (Int) := spec_l12At.l0 k a1 0 l0_0 l0_1 a0_2
theorem spec_l12At.mono_l : ∀ k, (∀ y0 y1 y2 y3 y4, LeO (spec_l12At.l0 k y0 y1 y2 y3 y4) (spec_l12At.l0 (k + 1) y0 y1 y2 y3 y4))
  | 0 => fun _ _ _ _ _ r h => by simp [spec_l12At.l0] at h
  | k + 1 => by
    have ih0 := spec_l12At.mono_l k
    · intro y0 y1 y2 y3 y4
      unfold spec_l12At.l0
      repeat' first
      | (with_reducible exact ih0 _ _ _ _ _)
      | (with_reducible exact LeO.refl _)
      | (with_reducible exact LeO.none _)
      | (with_reducible refine LeO.ite ?_ ?_)
      | (with_reducible refine LeO.bind ?_ (fun _ => ?_))
      | exact ih0 _ _ _ _ _
      | exact LeO.none _
      | refine LeO.ite ?_ ?_
      | refine LeO.bind ?_ (fun _ => ?_)
theorem spec_l12At.mono : ∀ a0 a1 a2 a3 k, LeO (spec_l12At.f k a0 a1 a2 a3) (spec_l12At.f (k + 1) a0 a1 a2 a3) := by
  intro a0 a1 a2 a3 k
  have ih0 := spec_l12At.mono_l k
  unfold spec_l12At.f
  repeat' first
      | (with_reducible exact ih0 _ _ _ _ _)
      | (with_reducible exact LeO.refl _)
      | (with_reducible exact LeO.none _)
      | (with_reducible refine LeO.ite ?_ ?_)
      | (with_reducible refine LeO.bind ?_ (fun _ => ?_))
      | exact ih0 _ _ _ _ _
      | exact LeO.none _
      | refine LeO.ite ?_ ?_
      | refine LeO.bind ?_ (fun _ => ?_)
set_option maxHeartbeats 8000000 in
set_option maxRecDepth 100000 in
theorem spec_l12At.calls (k : Nat) (A0_0 : Option Addr) (c0_0 : Nat) (l0_0 : List (S147)) (A0_1 : Option Addr) (c0_1 : Nat) (l0_1 : List (S133)) (a0_2 : Int) (a1 : Int) (r : Int) (w : World) (hr0_0 : Kd.C k147 w A0_0 l0_0.length l0_0) (hc0_0 : l0_0.length ≤ c0_0) (hr0_1 : Kd.C k133 w A0_1 l0_1.length l0_1) (hc0_1 : l0_1.length ≤ c0_1) (h : spec_l12At.f k l0_0 l0_1 a0_2 a1 = some r) :
    Calls Try.prog 113 #[.agg #[.slice A0_0 l0_0.length c0_0, .slice A0_1 l0_1.length c0_1, .int .i64 a0_2], .int .i64 a1] w fun e w' => e = .returned (.int .i64 r) ∧ Below w.heap.size w w' := by
  have hu83 := Try.underlying83
  have HR0_0 := Aside0.mk hr0_0
  have HC0_0 := Aside0.mk hc0_0
  clear hr0_0 hc0_0
  have HR0_1 := Aside0.mk hr0_1
  have HC0_1 := Aside0.mk hc0_1
  clear hr0_1 hc0_1
  have HB := Aside0.mk (Below.refl w.heap.size w)
  have H : (spec_l12At.l0 k a1 0 l0_0 l0_1 a0_2) = some r := h
  clear h
  have H' := Aside0.mk H
  clear H
  go_enter Try.func113, Try.ntmps113
  go_wp2_with (first | ((with_reducible refine gate_dst (N := 2) rfl ?_); refine box_event ?hg (N := 2) ?hd (cs := #[.slice A0_0 l0_0.length c0_0, .slice A0_1 l0_1.length c0_1, .int .i64 a0_2]) (t := 83) ?hr ?_; (case hd => rfl); (case hg => rfl); (case hr => first | (go_simp; done) | (go_simp; rfl)); intro gb1070 hg w3 hbox hb; have n0_ := Aside0.mk (below_step (by repeat (first | (with_reducible first | exact HB.out | apply below_alloc | apply pw_below_drewN | apply below_drew1) | exact HB.out)) hb); have n1_ := Aside0.mk (hbox); have n2_ := Aside0.mk ((by rw [hg]; exact (below_size (by repeat (first | (with_reducible first | exact HB.out | apply below_alloc | apply pw_below_drewN | apply below_drew1) | exact HB.out))) : w.heap.size ≤ gb1070)); have n3_ := Aside0.mk ((by rw [hg]; exact (below_size (by repeat (first | (with_reducible first | exact HB.out | apply below_alloc | apply pw_below_drewN | apply below_drew1) | exact HB.out))) : w.heap.size ≤ gb1070)); clear HB; have HB := n0_; have BK1070 := n1_; have GW1070 := n2_; have GE1070 := n3_; clear n0_ n1_ n2_ n3_; clear hb hbox hg))
  go_loopg [5] k (fun kq v5 w' => ∃ (x5_1 : Int), v5 = .int .i64 x5_1 ∧ Aside0 (spec_l12At.l0 kq a1 x5_1 l0_0 l0_1 a0_2 = some r) ∧ Aside0 (kq ≤ k) ∧ Aside0 (w'.heap[gb1070]? = some (.cells #[(.slice A0_0 l0_0.length c0_0), (.slice A0_1 l0_1.length c0_1), .int .i64 a0_2] 83 (0, 0))) ∧ Aside0 (Below w.heap.size w w'))
  case atStart => exact ⟨(0), (by first | rfl | (simp; done) | (simp [*]; done)), H', ⟨Nat.le_refl _⟩, ⟨by (with_reducible repeat (first | refine blk_drewN ?_ _ | refine blk_drew ?_ | refine blk_alloc ?_ _)); exact BK1070.out⟩, ⟨by repeat (first | (with_reducible first | exact HB.out | apply below_alloc | apply pw_below_drewN | apply below_drew1 | refine below_set ?_ GE1070.out) | exact HB.out)⟩⟩
  case round =>
    clear H'
    try clear c1
    try clear p2
    obtain ⟨x5_1, rfl, HA, HK1, BK1070, HB⟩ := hrel
    cases gk with
    | zero => exact absurd HA.out (by simp [spec_l12At.l0])
    | succ k1 =>
      have H := HA.out
      clear HA
      simp only [spec_l12At.l0] at H
      by_cases c4 : x5_1 < (l0_0.length : Int)
      · rw [if_pos c4] at H
        have c4b0 : decide (x5_1 < (l0_0.length : Int)) = true := decide_eq_true c4
        clear c4
        by_cases c5 : 0 ≤ x5_1
        · rw [if_pos c5] at H
          have c5b0 : decide (0 ≤ x5_1) = true := decide_eq_true c5
          clear c5
          by_cases c6 : ((rd_T147 l0_0 x5_1).f0) = a1
          · rw [if_pos c6] at H
            have c6b0 : (((rd_T147 l0_0 x5_1).f0) == a1) = true := beq_iff_eq.mpr c6
            have c6b1 : (((rd_T147 l0_0 x5_1).f0) != a1) = false := bne_eq_false_iff_eq.mpr c6
            clear c6
            obtain rfl := Option.some.inj H
            have hcz7_0 : wr.cell? ⟨gb1070, 0, none⟩ = some (.slice A0_0 l0_0.length c0_0) := (blk_cell BK1070.out 0).trans rfl
            have hcz7_1 : wr.cell? ⟨gb1070, 1, none⟩ = some (.slice A0_1 l0_1.length c0_1) := (blk_cell BK1070.out 1).trans rfl
            have hcz7_2 : wr.cell? ⟨gb1070, 2, none⟩ = some (.int .i64 a0_2) := (blk_cell BK1070.out 2).trans rfl
            have hfz7_0 := blk_frozen BK1070.out 0
            have hfz7_1 := blk_frozen BK1070.out 1
            have hfz7_2 := blk_frozen BK1070.out 2
            have p1071 : 0 ≤ (x5_1 : Int) := of_decide_eq_true (by first | (with_reducible assumption) | assumption)
            have q1071 : x5_1 < (l0_0.length : Int) := of_decide_eq_true (by first | (with_reducible assumption) | assumption)
            obtain ⟨ad1071, e1071, hx1071_0, hx1071_1⟩ := at_T147 HR0_0.out x5_1 p1071 q1071
            cases e1071
            replace hx1071_0 := (HB.out.cell (World.block_lt_of_cell? w _ hx1071_0)).trans hx1071_0
            replace hx1071_1 := (HB.out.cell (World.block_lt_of_cell? w _ hx1071_1)).trans hx1071_1
            replace p1071 := eq_true p1071
            replace q1071 := eq_true q1071
            go_wp2
            go_ret
            exact ⟨by first | rfl | (simp [errW_none, errW_some] <;> rfl) | (simp [*, errW_none, errW_some] <;> rfl), by repeat (first | (with_reducible first | exact HB.out | apply below_alloc | apply pw_below_drewN | apply below_drew1 | refine below_set ?_ GE1070.out) | exact HB.out)⟩
          · rw [if_neg c6] at H
            have c6b0 : (((rd_T147 l0_0 x5_1).f0) == a1) = false := beq_eq_false_iff_ne.mpr c6
            have c6b1 : (((rd_T147 l0_0 x5_1).f0) != a1) = true := bne_iff_ne.mpr c6
            have H' := Aside0.mk H
            clear H
            have hcz8_0 : wr.cell? ⟨gb1070, 0, none⟩ = some (.slice A0_0 l0_0.length c0_0) := (blk_cell BK1070.out 0).trans rfl
            have hcz8_1 : wr.cell? ⟨gb1070, 1, none⟩ = some (.slice A0_1 l0_1.length c0_1) := (blk_cell BK1070.out 1).trans rfl
            have hcz8_2 : wr.cell? ⟨gb1070, 2, none⟩ = some (.int .i64 a0_2) := (blk_cell BK1070.out 2).trans rfl
            have hfz8_0 := blk_frozen BK1070.out 0
            have hfz8_1 := blk_frozen BK1070.out 1
            have hfz8_2 := blk_frozen BK1070.out 2
            have p1071 : 0 ≤ (x5_1 : Int) := of_decide_eq_true (by first | (with_reducible assumption) | assumption)
            have q1071 : x5_1 < (l0_0.length : Int) := of_decide_eq_true (by first | (with_reducible assumption) | assumption)
            obtain ⟨ad1071, e1071, hx1071_0, hx1071_1⟩ := at_T147 HR0_0.out x5_1 p1071 q1071
            cases e1071
            replace hx1071_0 := (HB.out.cell (World.block_lt_of_cell? w _ hx1071_0)).trans hx1071_0
            replace hx1071_1 := (HB.out.cell (World.block_lt_of_cell? w _ hx1071_1)).trans hx1071_1
            replace p1071 := eq_true p1071
            replace q1071 := eq_true q1071
            go_wp2
            go_roundg k1
            case measure => have := HK1.out; omega
            case rel => exact ⟨(wrap64 (x5_1 + 1)), (by first | rfl | (simp; done) | (simp [*]; done)), H', ⟨by have := HK1.out; omega⟩, ⟨by (with_reducible repeat (first | refine blk_drewN ?_ _ | refine blk_drew ?_ | refine blk_alloc ?_ _)); exact BK1070.out⟩, ⟨by repeat (first | (with_reducible first | exact HB.out | apply below_alloc | apply pw_below_drewN | apply below_drew1 | refine below_set ?_ GE1070.out) | exact HB.out)⟩⟩
        · rw [if_neg c5] at H
          exact absurd H (by simp)
      · rw [if_neg c4] at H
        have c4b0 : decide (x5_1 < (l0_0.length : Int)) = false := decide_eq_false c4
        clear c4
        obtain rfl := Option.some.inj H
        have hcz9_0 : wr.cell? ⟨gb1070, 0, none⟩ = some (.slice A0_0 l0_0.length c0_0) := (blk_cell BK1070.out 0).trans rfl
        have hcz9_1 : wr.cell? ⟨gb1070, 1, none⟩ = some (.slice A0_1 l0_1.length c0_1) := (blk_cell BK1070.out 1).trans rfl
        have hcz9_2 : wr.cell? ⟨gb1070, 2, none⟩ = some (.int .i64 a0_2) := (blk_cell BK1070.out 2).trans rfl
        have hfz9_0 := blk_frozen BK1070.out 0
        have hfz9_1 := blk_frozen BK1070.out 1
        have hfz9_2 := blk_frozen BK1070.out 2
        go_wp2
        go_ret
        exact ⟨by first | rfl | (simp [errW_none, errW_some] <;> rfl) | (simp [*, errW_none, errW_some] <;> rfl), by repeat (first | (with_reducible first | exact HB.out | apply below_alloc | apply pw_below_drewN | apply below_drew1 | refine below_set ?_ GE1070.out) | exact HB.out)⟩

end Go.Proofs.Ytdolplcbokioaaa.PB
