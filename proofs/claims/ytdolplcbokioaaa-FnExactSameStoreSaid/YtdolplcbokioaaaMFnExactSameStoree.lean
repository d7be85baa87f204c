/- FnExactSameStore: functions of the translation as Lean functions with what their calls come to, plain lemmas on them, and, at the end, the row. Parts of one proof, merged by a program of this session; each part's own sentence stands at its head. -/
import Derived.Test.YtdolplcbokioaaaRows
import Derived.WalkKit
import Derived.ProofKit
import Derived.OpenShut
import Derived.ShutString
import Derived.ChangeOld
import Derived.Below
import Derived.SizedLaws
import Derived.Test.YtdolplcbokioaaaMFnExactSameStored
/- Functions of the translation as plain Lean functions, and for each that its call comes to just what its Lean function answers; its conditions stand in each theorem. Written by a program of this session. -/
namespace Go.Proofs.Ytdolplcbokioaaa.PB
open Go.RowKit Go.Proofs.YtdolplcbokioaaaW.PrintWords Go.Proofs.YtdolplcbokioaaaW.PrintLast Go.Proofs.YtdolplcbokioaaaW.PrintMore
attribute [local go_sem] max2_int min2_int max_two min_two max_three min_three max_four min_four   -- for this text's walks alone
set_option linter.unusedVariables false
set_option linter.unusedSimpArgs false

/-! ### impl_volAt: function 115 -/
def impl_volAt.l0 : Nat → Int → List (S147) → Int → Int → Option (Int)
  | 0, _, _, _, _ => none
  | k + 1, x1, x8, x9, x10 => if x10 < x9 then (if 0 ≤ x10 then (if x10 < (x8.length : Int) then (if ((rd_T147 x8 x10).f0) = x1 then (some x10) else (impl_volAt.l0 k x1 x8 x9 (wrap64 (x10 + 1)))) else (none)) else (none)) else (some (-1))
def impl_volAt.f (k : Nat) (l0_0 : List (S147)) (l0_1 : List (S133)) (a0_2 : Int) (a1 : Int) : Option (Int) := impl_volAt.l0 k a1 l0_0 (l0_0.length : Int) 0
theorem impl_volAt.mono_l : ∀ k, (∀ y0 y1 y2 y3, LeO (impl_volAt.l0 k y0 y1 y2 y3) (impl_volAt.l0 (k + 1) y0 y1 y2 y3))
  | 0 => fun _ _ _ _ r h => by simp [impl_volAt.l0] at h
  | k + 1 => by
    have ih0 := impl_volAt.mono_l k
    · intro y0 y1 y2 y3
      unfold impl_volAt.l0
      repeat' first
      | (with_reducible exact ih0 _ _ _ _)
      | (with_reducible exact LeO.refl _)
      | (with_reducible exact LeO.none _)
      | (with_reducible refine LeO.ite ?_ ?_)
      | (with_reducible refine LeO.bind ?_ (fun _ => ?_))
      | exact ih0 _ _ _ _
      | exact LeO.none _
      | refine LeO.ite ?_ ?_
      | refine LeO.bind ?_ (fun _ => ?_)
theorem impl_volAt.mono : ∀ a0 a1 a2 a3 k, LeO (impl_volAt.f k a0 a1 a2 a3) (impl_volAt.f (k + 1) a0 a1 a2 a3) := by
  intro a0 a1 a2 a3 k
  have ih0 := impl_volAt.mono_l k
  unfold impl_volAt.f
  repeat' first
      | (with_reducible exact ih0 _ _ _ _)
      | (with_reducible exact LeO.refl _)
      | (with_reducible exact LeO.none _)
      | (with_reducible refine LeO.ite ?_ ?_)
      | (with_reducible refine LeO.bind ?_ (fun _ => ?_))
      | exact ih0 _ _ _ _
      | exact LeO.none _
      | refine LeO.ite ?_ ?_
      | refine LeO.bind ?_ (fun _ => ?_)
set_option maxHeartbeats 8000000 in
set_option maxRecDepth 100000 in
theorem impl_volAt.calls (k : Nat) (A0_0 : Option Addr) (c0_0 : Nat) (l0_0 : List (S147)) (A0_1 : Option Addr) (c0_1 : Nat) (l0_1 : List (S133)) (a0_2 : Int) (a1 : Int) (r : Int) (w : World) (hr0_0 : Kd.C k147 w A0_0 l0_0.length l0_0) (hc0_0 : l0_0.length ≤ c0_0) (hr0_1 : Kd.C k133 w A0_1 l0_1.length l0_1) (hc0_1 : l0_1.length ≤ c0_1) (h : impl_volAt.f k l0_0 l0_1 a0_2 a1 = some r) :
    Calls Try.prog 115 #[.agg #[.slice A0_0 l0_0.length c0_0, .slice A0_1 l0_1.length c0_1, .int .i64 a0_2], .int .i64 a1] w fun e w' => e = .returned (.int .i64 r) ∧ Below w.heap.size w w' := by
  have hu83 := Try.underlying83
  have hu147 := Try.underlying147
  have HR0_0 := Aside0.mk hr0_0
  have HC0_0 := Aside0.mk hc0_0
  clear hr0_0 hc0_0
  have HR0_1 := Aside0.mk hr0_1
  have HC0_1 := Aside0.mk hc0_1
  clear hr0_1 hc0_1
  have HB := Aside0.mk (Below.refl w.heap.size w)
  have H : (impl_volAt.l0 k a1 l0_0 (l0_0.length : Int) 0) = some r := h
  clear h
  have H' := Aside0.mk H
  clear H
  go_enter Try.func115, Try.ntmps115
  go_wp2_with (first | ((with_reducible refine gate_dst (N := 2) rfl ?_); refine box_event ?hg (N := 2) ?hd (cs := #[.slice A0_0 l0_0.length c0_0, .slice A0_1 l0_1.length c0_1, .int .i64 a0_2]) (t := 83) ?hr ?_; (case hd => rfl); (case hg => rfl); (case hr => first | (go_simp; done) | (go_simp; rfl)); intro gb1095 hg w3 hbox hb; have n0_ := Aside0.mk (below_step (by repeat (first | (with_reducible first | exact HB.out | apply below_alloc | apply pw_below_drewN | apply below_drew1) | exact HB.out)) hb); have n1_ := Aside0.mk (hbox); have n2_ := Aside0.mk ((by rw [hg]; exact (below_size (by repeat (first | (with_reducible first | exact HB.out | apply below_alloc | apply pw_below_drewN | apply below_drew1) | exact HB.out))) : w.heap.size ≤ gb1095)); have n3_ := Aside0.mk ((by rw [hg]; exact (below_size (by repeat (first | (with_reducible first | exact HB.out | apply below_alloc | apply pw_below_drewN | apply below_drew1) | exact HB.out))) : w.heap.size ≤ gb1095)); clear HB; have HB := n0_; have BK1095 := n1_; have GW1095 := n2_; have GE1095 := n3_; clear n0_ n1_ n2_ n3_; clear hb hbox hg; have hcz4_0 : w3.cell? ⟨gb1095, 0, none⟩ = some (.slice A0_0 l0_0.length c0_0) := (blk_cell BK1095.out 0).trans rfl; have hcz4_1 : w3.cell? ⟨gb1095, 1, none⟩ = some (.slice A0_1 l0_1.length c0_1) := (blk_cell BK1095.out 1).trans rfl; have hcz4_2 : w3.cell? ⟨gb1095, 2, none⟩ = some (.int .i64 a0_2) := (blk_cell BK1095.out 2).trans rfl; have hfz4_0 := blk_frozen BK1095.out 0; have hfz4_1 := blk_frozen BK1095.out 1; have hfz4_2 := blk_frozen BK1095.out 2))
  go_loopg [10] k (fun kq v10 w' => ∃ (x10_1 : Int), v10 = .int .i64 x10_1 ∧ Aside0 (impl_volAt.l0 kq a1 l0_0 (l0_0.length : Int) x10_1 = some r) ∧ Aside0 (kq ≤ k) ∧ Aside0 (w'.heap[gb1095]? = some (.cells #[(.slice A0_0 l0_0.length c0_0), (.slice A0_1 l0_1.length c0_1), .int .i64 a0_2] 83 (0, 0))) ∧ Aside0 (Below w.heap.size w w'))
  case atStart => exact ⟨(0), (by first | rfl | (simp; done) | (simp [*]; done)), H', ⟨Nat.le_refl _⟩, ⟨by (with_reducible repeat (first | refine blk_drewN ?_ _ | refine blk_drew ?_ | refine blk_alloc ?_ _)); exact BK1095.out⟩, ⟨by repeat (first | (with_reducible first | exact HB.out | apply below_alloc | apply pw_below_drewN | apply below_drew1 | refine below_set ?_ GE1095.out) | exact HB.out)⟩⟩
  case round =>
    clear H'
    try clear c1
    try clear p2
    try clear hcz4_0
    try clear hcz4_1
    try clear hcz4_2
    try clear hfz4_0
    try clear hfz4_1
    try clear hfz4_2
    obtain ⟨x10_1, rfl, HA, HK1, BK1095, HB⟩ := hrel
    cases gk with
    | zero => exact absurd HA.out (by simp [impl_volAt.l0])
    | succ k1 =>
      have H := HA.out
      clear HA
      simp only [impl_volAt.l0] at H
      by_cases c5 : x10_1 < (l0_0.length : Int)
      · rw [if_pos c5] at H
        have c5b0 : decide (x10_1 < (l0_0.length : Int)) = true := decide_eq_true c5
        clear c5
        by_cases c6 : 0 ≤ x10_1
        · rw [if_pos c6] at H
          have c6b0 : decide (0 ≤ x10_1) = true := decide_eq_true c6
          clear c6
          by_cases c7 : x10_1 < (l0_0.length : Int)
          · rw [if_pos c7] at H
            have c7b0 : decide (x10_1 < (l0_0.length : Int)) = true := decide_eq_true c7
            clear c7
            by_cases c8 : ((rd_T147 l0_0 x10_1).f0) = a1
            · rw [if_pos c8] at H
              have c8b0 : (((rd_T147 l0_0 x10_1).f0) == a1) = true := beq_iff_eq.mpr c8
              have c8b1 : (((rd_T147 l0_0 x10_1).f0) != a1) = false := bne_eq_false_iff_eq.mpr c8
              clear c8
              obtain rfl := Option.some.inj H
              have p1096 : 0 ≤ (x10_1 : Int) := of_decide_eq_true (by first | (with_reducible assumption) | assumption)
              have q1096 : x10_1 < (l0_0.length : Int) := of_decide_eq_true (by first | (with_reducible assumption) | assumption)
              obtain ⟨ad1096, e1096, hx1096_0, hx1096_1⟩ := at_T147 HR0_0.out x10_1 p1096 q1096
              cases e1096
              replace hx1096_0 := (HB.out.cell (World.block_lt_of_cell? w _ hx1096_0)).trans hx1096_0
              replace hx1096_1 := (HB.out.cell (World.block_lt_of_cell? w _ hx1096_1)).trans hx1096_1
              replace p1096 := eq_true p1096
              replace q1096 := eq_true q1096
              go_wp2_with (first | ((with_reducible refine gate_dst (N := 6) rfl ?_); refine box_event ?hg (N := 6) ?hd (cs := #[.int .i64 0, .int .i64 0]) (t := 147) ?hr ?_; (case hd => rfl); (case hg => rfl); (case hr => first | (go_simp; done) | (go_simp; rfl)); intro gb1097 hg w9 hbox hb; have n0_ := Aside0.mk (blk_below (g := gb1095) (o := .cells #[.slice (some ad1096) l0_0.length c0_0, .slice A0_1 l0_1.length c0_1, .int .i64 a0_2] 83 (0, 0)) (by (with_reducible repeat (first | refine blk_drewN ?_ _ | refine blk_drew ?_ | refine blk_alloc ?_ _)); exact BK1095.out) hb); have n1_ := Aside0.mk (below_step (by repeat (first | (with_reducible first | exact HB.out | apply below_alloc | apply pw_below_drewN | apply below_drew1 | refine below_set ?_ GE1095.out) | exact HB.out)) hb); have n2_ := Aside0.mk (hbox); have n3_ := Aside0.mk ((by rw [hg]; exact (below_size (by repeat (first | (with_reducible first | exact HB.out | apply below_alloc | apply pw_below_drewN | apply below_drew1 | refine below_set ?_ GE1095.out) | exact HB.out))) : w.heap.size ≤ gb1097)); have n4_ := Aside0.mk ((by rw [hg]; exact (below_size (by repeat (first | (with_reducible first | exact HB.out | apply below_alloc | apply pw_below_drewN | apply below_drew1 | refine below_set ?_ GE1095.out) | exact HB.out))) : w.heap.size ≤ gb1097)); have n5_ := Aside0.mk ((by rw [hg]; exact Nat.ne_of_lt (blk_lt (g := gb1095) (o := .cells #[.slice (some ad1096) l0_0.length c0_0, .slice A0_1 l0_1.length c0_1, .int .i64 a0_2] 83 (0, 0)) (by (with_reducible repeat (first | refine blk_drewN ?_ _ | refine blk_drew ?_ | refine blk_alloc ?_ _)); exact BK1095.out)) : gb1095 ≠ gb1097)); have n6_ := Aside0.mk ((by rw [hg]; exact Nat.ne_of_gt (blk_lt (g := gb1095) (o := .cells #[.slice (some ad1096) l0_0.length c0_0, .slice A0_1 l0_1.length c0_1, .int .i64 a0_2] 83 (0, 0)) (by (with_reducible repeat (first | refine blk_drewN ?_ _ | refine blk_drew ?_ | refine blk_alloc ?_ _)); exact BK1095.out)) : gb1097 ≠ gb1095)); clear BK1095; clear HB; have BK1095 := n0_; have HB := n1_; have BK1097 := n2_; have GW1097 := n3_; have GE1097 := n4_; have NB1095_1097 := n5_; have NB1097_1095 := n6_; clear n0_ n1_ n2_ n3_ n4_ n5_ n6_; clear hb hbox hg; have hnb10 := NB1097_1095.out; have hnc10 := NB1095_1097.out; have hcz11_0 : w9.cell? ⟨gb1097, 0, none⟩ = some (.int .i64 0) := (blk_cell BK1097.out 0).trans rfl; have hcz11_1 : w9.cell? ⟨gb1097, 1, none⟩ = some (.int .i64 0) := (blk_cell BK1097.out 1).trans rfl; have hfz11_0 := blk_frozen BK1097.out 0; have hfz11_1 := blk_frozen BK1097.out 1))
              go_ret
              exact ⟨by first | rfl | (simp [errW_none, errW_some] <;> rfl) | (simp [*, errW_none, errW_some] <;> rfl), by repeat (first | (with_reducible first | exact HB.out | apply below_alloc | apply pw_below_drewN | apply below_drew1 | refine below_set ?_ GE1095.out | refine below_set ?_ GE1097.out) | exact HB.out)⟩
            · rw [if_neg c8] at H
              have c8b0 : (((rd_T147 l0_0 x10_1).f0) == a1) = false := beq_eq_false_iff_ne.mpr c8
              have c8b1 : (((rd_T147 l0_0 x10_1).f0) != a1) = true := bne_iff_ne.mpr c8
              have H' := Aside0.mk H
              clear H
              have p1096 : 0 ≤ (x10_1 : Int) := of_decide_eq_true (by first | (with_reducible assumption) | assumption)
              have q1096 : x10_1 < (l0_0.length : Int) := of_decide_eq_true (by first | (with_reducible assumption) | assumption)
              obtain ⟨ad1096, e1096, hx1096_0, hx1096_1⟩ := at_T147 HR0_0.out x10_1 p1096 q1096
              cases e1096
              replace hx1096_0 := (HB.out.cell (World.block_lt_of_cell? w _ hx1096_0)).trans hx1096_0
              replace hx1096_1 := (HB.out.cell (World.block_lt_of_cell? w _ hx1096_1)).trans hx1096_1
              replace p1096 := eq_true p1096
              replace q1096 := eq_true q1096
              go_wp2_with (first | ((with_reducible refine gate_dst (N := 6) rfl ?_); refine box_event ?hg (N := 6) ?hd (cs := #[.int .i64 0, .int .i64 0]) (t := 147) ?hr ?_; (case hd => rfl); (case hg => rfl); (case hr => first | (go_simp; done) | (go_simp; rfl)); intro gb1097 hg w12 hbox hb; have n0_ := Aside0.mk (blk_below (g := gb1095) (o := .cells #[.slice (some ad1096) l0_0.length c0_0, .slice A0_1 l0_1.length c0_1, .int .i64 a0_2] 83 (0, 0)) (by (with_reducible repeat (first | refine blk_drewN ?_ _ | refine blk_drew ?_ | refine blk_alloc ?_ _)); exact BK1095.out) hb); have n1_ := Aside0.mk (below_step (by repeat (first | (with_reducible first | exact HB.out | apply below_alloc | apply pw_below_drewN | apply below_drew1 | refine below_set ?_ GE1095.out) | exact HB.out)) hb); have n2_ := Aside0.mk (hbox); have n3_ := Aside0.mk ((by rw [hg]; exact (below_size (by repeat (first | (with_reducible first | exact HB.out | apply below_alloc | apply pw_below_drewN | apply below_drew1 | refine below_set ?_ GE1095.out) | exact HB.out))) : w.heap.size ≤ gb1097)); have n4_ := Aside0.mk ((by rw [hg]; exact (below_size (by repeat (first | (with_reducible first | exact HB.out | apply below_alloc | apply pw_below_drewN | apply below_drew1 | refine below_set ?_ GE1095.out) | exact HB.out))) : w.heap.size ≤ gb1097)); have n5_ := Aside0.mk ((by rw [hg]; exact Nat.ne_of_lt (blk_lt (g := gb1095) (o := .cells #[.slice (some ad1096) l0_0.length c0_0, .slice A0_1 l0_1.length c0_1, .int .i64 a0_2] 83 (0, 0)) (by (with_reducible repeat (first | refine blk_drewN ?_ _ | refine blk_drew ?_ | refine blk_alloc ?_ _)); exact BK1095.out)) : gb1095 ≠ gb1097)); have n6_ := Aside0.mk ((by rw [hg]; exact Nat.ne_of_gt (blk_lt (g := gb1095) (o := .cells #[.slice (some ad1096) l0_0.length c0_0, .slice A0_1 l0_1.length c0_1, .int .i64 a0_2] 83 (0, 0)) (by (with_reducible repeat (first | refine blk_drewN ?_ _ | refine blk_drew ?_ | refine blk_alloc ?_ _)); exact BK1095.out)) : gb1097 ≠ gb1095)); clear BK1095; clear HB; have BK1095 := n0_; have HB := n1_; have BK1097 := n2_; have GW1097 := n3_; have GE1097 := n4_; have NB1095_1097 := n5_; have NB1097_1095 := n6_; clear n0_ n1_ n2_ n3_ n4_ n5_ n6_; clear hb hbox hg; have hnb13 := NB1097_1095.out; have hnc13 := NB1095_1097.out; have hcz14_0 : w12.cell? ⟨gb1097, 0, none⟩ = some (.int .i64 0) := (blk_cell BK1097.out 0).trans rfl; have hcz14_1 : w12.cell? ⟨gb1097, 1, none⟩ = some (.int .i64 0) := (blk_cell BK1097.out 1).trans rfl; have hfz14_0 := blk_frozen BK1097.out 0; have hfz14_1 := blk_frozen BK1097.out 1))
              go_roundg k1
              case measure => have := HK1.out; omega
              case rel => exact ⟨(wrap64 (x10_1 + 1)), (by first | rfl | (simp; done) | (simp [*]; done)), H', ⟨by have := HK1.out; omega⟩, ⟨by (with_reducible repeat (first | refine blk_drewN ?_ _ | refine blk_drew ?_ | refine blk_alloc ?_ _)); refine blk_far ?_ NB1095_1097.out _; (with_reducible repeat (first | refine blk_drewN ?_ _ | refine blk_drew ?_ | refine blk_alloc ?_ _)); refine blk_far ?_ NB1095_1097.out _; (with_reducible repeat (first | refine blk_drewN ?_ _ | refine blk_drew ?_ | refine blk_alloc ?_ _)); exact BK1095.out⟩, ⟨by repeat (first | (with_reducible first | exact HB.out | apply below_alloc | apply pw_below_drewN | apply below_drew1 | refine below_set ?_ GE1095.out | refine below_set ?_ GE1097.out) | exact HB.out)⟩⟩
          · rw [if_neg c7] at H
            exact absurd H (by simp)
        · rw [if_neg c6] at H
          exact absurd H (by simp)
      · rw [if_neg c5] at H
        have c5b0 : decide (x10_1 < (l0_0.length : Int)) = false := decide_eq_false c5
        clear c5
        obtain rfl := Option.some.inj H
        go_wp2
        go_ret
        exact ⟨by first | rfl | (simp [errW_none, errW_some] <;> rfl) | (simp [*, errW_none, errW_some] <;> rfl), by repeat (first | (with_reducible first | exact HB.out | apply below_alloc | apply pw_below_drewN | apply below_drew1 | refine below_set ?_ GE1095.out) | exact HB.out)⟩

end Go.Proofs.Ytdolplcbokioaaa.PB

/- What the functions on stores answer: sizes, copies, comparison, the place of a volume, a sector's chunk. -/
namespace Go.Proofs.Ytdolplcbokioaaa.Pu
set_option linter.unusedVariables false
set_option linter.unusedSimpArgs false
open Go.RowKit Go.Proofs.Ytdolplcbokioaaa.PB Go.Proofs.YtdolplcbokioaaaW.PrintWords

theorem rdLV_nat (l : List S184) (i : Nat) : rd_T184 l (i : Int) = l.getD i z184 := rfl
theorem rdIV_nat (l : List S147) (i : Nat) : rd_T147 l (i : Int) = l.getD i z147 := rfl
def toVl (x : S184) : S147 := ⟨x.f0, x.f1⟩

theorem toVolS_ev (l : List S184) (h : l.length ≤ 1048576) : Ev (fun k => laws_toVolS.f k l) (l.map toVl) := by
  have h1 := ev_fill_all (E := fun _ i => (laws_toVol.f (rd_T184 l i).f0 (rd_T184 l i).f1).bind fun bt => some (⟨bt.1, bt.2⟩ : S147)) (l := l) (z := z184) (g := toVl) (xs := List.replicate l.length z147) (L := fun k xs i => laws_toVolS.l0 k l xs i) (by omega) (fun k xs i => by
    simp only [laws_toVolS.l0, Option.bind_assoc, Option.bind_some]) (fun i hi => by rw [rdLV_nat]; exact Ev.now _) (by simp)
  refine ev_ext (fun k => ?_) h1
  unfold laws_toVolS.f
  rw [if_pos (by omega), if_pos (by simp; omega)]
  simp
theorem toStore_ev (v : List S184) (a : List S175) (n : Int) (hv : v.length ≤ 1048576) (h : a.length ≤ 1048576) (hk : ∀ x ∈ a, x.f1.length ≤ 1048576) : Ev (fun k => laws_toStore.f k v a n) (v.map toVl, toA a, n) := by
  unfold laws_toStore.f
  exact ev_bind (toVolS_ev v hv) (ev_bind (toArena_ev a (by omega) (fun x hx => by have := hk x hx; omega)) (Ev.now _))
theorem eqVolS_ev (l : List S147) (hn : l.length ≤ 1048576) : Ev (fun k => laws_eqVolS.f k l l) true := by
  have h1 := ev_all (n := l.length) (m := l.length) (L := fun k i => laws_eqVolS.l0 k l l i) (E := fun _ i => laws_eqVol.f (rd_T147 l i).f0 (rd_T147 l i).f1 (rd_T147 l i).f0 (rd_T147 l i).f1) (by omega) (Nat.le_refl _) (fun k i => by simp only [laws_eqVolS.l0])
    (fun i _ => ev_const (by simp [laws_eqVol.f])) l.length 0 (by omega)
  refine ev_ext (fun k => ?_) h1
  unfold laws_eqVolS.f
  rw [if_pos rfl]; rfl
theorem eqStore_ev (v : List S147) (a : List S133) (n : Int) (hv : v.length ≤ 1048576) (hn : a.length ≤ 9223372036854775807) (hk : ∀ x ∈ a, x.f1.length ≤ 9223372036854775807) : Ev (fun k => laws_eqStore.f k v a n v a n) true := by
  unfold laws_eqStore.f
  refine ev_bind (eqVolS_ev v hv) ?_
  simp only [if_true]
  refine ev_bind (eqArena_ev a hn hk) ?_
  simp only [if_true]
  exact Ev.now _
theorem szStore_ev (v : List S184) (l : List S175) (n a : Int) (h0 : 0 ≤ a) (h1 : a ≤ 1048576) (hv : v.length ≤ 9223372036854775807) (hn : l.length ≤ 9223372036854775807) (hk : ∀ x ∈ l, x.f1.length ≤ 9223372036854775807) :
    ∃ r, Ev (fun k => laws_szStore.f k v l n a) r ∧ r ≤ a ∧ (0 ≤ r → v.length ≤ 1048576 ∧ l.length ≤ 1048576 ∧ ∀ x ∈ l, x.f1.length ≤ 1048576) := by
  unfold laws_szStore.f laws_szVolS.f
  rw [w64 (by omega) (by omega)]
  by_cases h : a - (v.length : Int) < 0
  · exact ⟨-1, by simp only [if_pos h, Option.bind_some, if_pos (show (-1 : Int) < 0 by omega)]; exact Ev.now _, by omega, fun h2 => by omega⟩
  · simp only [if_neg h, Option.bind_some]
    obtain ⟨r, hr, hra, hq⟩ := szArena_ev l (a - (v.length : Int)) (by omega) (by omega) hn hk
    by_cases h2 : r < 0
    · exact ⟨-1, ev_bind hr (by simp only [if_pos h2]; exact Ev.now _), by omega, fun h3 => by omega⟩
    · refine ⟨r, ev_bind hr (by simp only [if_neg h2]; exact Ev.now _), by omega, fun h3 => ?_⟩
      obtain ⟨a1, a2⟩ := hq h3
      exact ⟨by omega, by omega, fun x hx => by have := a2 x hx; omega⟩
/-- What a law on a store begins with. -/
theorem store_start {v : List S184} {l : List S175} {n a : Int} (h0 : 0 ≤ a) (h1 : a ≤ 1048576) (hv : v.length ≤ maxLen) (hl : l.length ≤ maxLen) (hx : ∀ x ∈ l, x.f1.length ≤ maxLen) :
    ∃ r, Ev (fun k => laws_szStore.f k v l n a) r ∧ r ≤ a ∧ (0 ≤ r → Ev (fun k => laws_toStore.f k v l n) (v.map toVl, toA l, n) ∧ Ev (fun k => laws_eqStore.f k (v.map toVl) (toA l) n (v.map toVl) (toA l) n) true ∧ (v.map toVl).length ≤ 1048576 ∧ (toA l).length ≤ 1048576 ∧ ∀ x ∈ toA l, x.f1.length ≤ 1048576) := by
  unfold maxLen at hv hl hx
  obtain ⟨r, hr, hra, hq⟩ := szStore_ev v l n a h0 h1 (by omega) (by omega) (fun x h => by have := hx x h; omega)
  refine ⟨r, hr, hra, fun h2 => ?_⟩
  obtain ⟨a1, a2, a3⟩ := hq h2
  have hlen : (toA l).length = l.length := by unfold toA; exact List.length_map _
  have hlv : (v.map toVl).length = v.length := List.length_map _
  have hm : ∀ x ∈ toA l, x.f1.length ≤ 1048576 := by
    intro x h
    unfold toA at h
    obtain ⟨y, hy, rfl⟩ := List.mem_map.1 h
    exact a3 y hy
  exact ⟨toStore_ev v l n a1 a2 a3, eqStore_ev _ _ n (by omega) (by omega) (fun x h => by have := hm x h; omega), by omega, by omega, hm⟩

/-- The place of a volume, or -1. -/
def volB (v : List S147) (id : Int) : Int := findI (fun i => decide ((v.getD i z147).f0 = id)) 0 v.length
theorem volB_cases (v : List S147) (id : Int) : volB v id = -1 ∨ ∃ j : Nat, j < v.length ∧ volB v id = (j : Int) := by
  rcases findI_range (T := fun i => decide ((v.getD i z147).f0 = id)) v.length 0 with h | ⟨j, _, h2, h3, _⟩
  · exact .inl h
  · exact .inr ⟨j, by omega, h3⟩
theorem iVolAt_ev (v : List S147) (a : List S133) (n id : Int) (hv : v.length ≤ 1048576) : Ev (fun k => impl_volAt.f k v a n id) (volB v id) := by
  refine ev_find (L := fun k i => impl_volAt.l0 k id v (v.length : Int) i) (n := v.length) (T := fun i => decide ((v.getD i z147).f0 = id)) (fun i hi ht => ?_) (fun i hi ht r hr => ?_) (ev_some fun k => by simp only [impl_volAt.l0]; rw [if_neg (by omega)]) v.length 0 (by omega)
  · refine ev_some fun k => ?_
    simp only [impl_volAt.l0]
    rw [if_pos (by omega), if_pos (by omega), if_pos (by omega), rdIV_nat, if_pos (of_decide_eq_true ht)]
  · refine Ev.step (fun k => ?_) hr
    simp only [impl_volAt.l0]
    rw [if_pos (by omega), if_pos (by omega), if_pos (by omega), rdIV_nat, if_neg (of_decide_eq_false ht), wsucc (n := v.length) hi (by omega)]
theorem sVolAt_ev (v : List S147) (a : List S133) (n id : Int) (hv : v.length ≤ 1048576) : Ev (fun k => spec_l12At.f k v a n id) (volB v id) := by
  refine ev_find (L := fun k i => spec_l12At.l0 k id i v a n) (n := v.length) (T := fun i => decide ((v.getD i z147).f0 = id)) (fun i hi ht => ?_) (fun i hi ht r hr => ?_) (ev_some fun k => by simp only [spec_l12At.l0]; rw [if_neg (by omega)]) v.length 0 (by omega)
  · refine ev_some fun k => ?_
    simp only [spec_l12At.l0]
    rw [if_pos (by omega), if_pos (by omega), rdIV_nat, if_pos (of_decide_eq_true ht)]
  · refine Ev.step (fun k => ?_) hr
    simp only [spec_l12At.l0]
    rw [if_pos (by omega), if_pos (by omega), rdIV_nat, if_neg (of_decide_eq_false ht), wsucc (n := v.length) hi (by omega)]
end Go.Proofs.Ytdolplcbokioaaa.Pu

/- Whether two stores tell the same, as one Bool; the program's and the reference's SameStore tell it. -/
namespace Go.Proofs.Ytdolplcbokioaaa.Pu
set_option linter.unusedVariables false
set_option linter.unusedSimpArgs false
open Go.RowKit Go.Proofs.Ytdolplcbokioaaa.PB Go.Proofs.YtdolplcbokioaaaW.PrintWords

def sameFrom (v : List S147) (a : List S133) (w : List S147) (b : List S133) : Nat → Nat → Bool
  | 0, _ => true
  | d + 1, i => decide ((v.getD i z147).f0 = (w.getD i z147).f0) && (decide (allB a (v.getD i z147).f1 = allB b (w.getD i z147).f1) && sameFrom v a w b d (i + 1))
def sameB (v : List S147) (a : List S133) (n : Int) (w : List S147) (b : List S133) (m : Int) : Bool := if v.length = w.length ∧ n = m then sameFrom v a w b v.length 0 else false
theorem dec_cons {x y : Int} {l m : List Int} : decide (x :: l = y :: m) = (decide (x = y) && decide (l = m)) := by
  by_cases h : x = y <;> by_cases h2 : l = m <;> simp [h, h2]
theorem iSame_ev (v : List S147) (a : List S133) (n : Int) (w : List S147) (b : List S133) (m : Int) (hv : v.length ≤ 1048576) (ha : a.length ≤ 9223372036854775807) (hb : b.length ≤ 9223372036854775807) : Ev (fun k => impl_SameStore.f k v a n w b m) (sameB v a n w b m) := by
  have main : v.length = w.length → ∀ (d i : Nat), i + d = v.length → Ev (fun k => impl_SameStore.l0 k v (v.length : Int) (i : Int) v a n w b m) (sameFrom v a w b d i) := by
    intro hvw d
    induction d with
    | zero =>
      intro i hi
      refine ev_some fun k => ?_
      simp only [impl_SameStore.l0]
      rw [if_neg (by omega)]; rfl
    | succ d ih =>
      intro i hi
      have hil : i < v.length := by omega
      have inner : ∀ (e j : Nat), j + e = 16 → Ev (fun k => impl_SameStore.l1 k (allB b (w.getD i z147).f1) v (v.length : Int) (i : Int) (allB a (v.getD i z147).f1) 16 (j : Int) v a n w b m) (decide ((allB a (v.getD i z147).f1).drop j = (allB b (w.getD i z147).f1).drop j) && sameFrom v a w b d (i + 1)) := by
        intro e
        induction e with
        | zero =>
          intro j hj
          rw [List.drop_eq_nil_of_le (by rw [allB_len]; omega), List.drop_eq_nil_of_le (by rw [allB_len]; omega), decide_eq_true (rfl : ([] : List Int) = []), Bool.true_and]
          refine Ev.step (fun k => ?_) (ih (i + 1) (by omega))
          simp only [impl_SameStore.l1]
          rw [if_neg (by omega), wsucc (n := v.length) hil (by omega)]
        | succ e ihe =>
          intro j hj
          have h1 := allB_len a (v.getD i z147).f1
          have h2 := allB_len b (w.getD i z147).f1
          rw [drop_get 0 (show j < (allB a (v.getD i z147).f1).length by omega), drop_get 0 (show j < (allB b (w.getD i z147).f1).length by omega), dec_cons]
          by_cases h : (allB a (v.getD i z147).f1).getD j 0 = (allB b (w.getD i z147).f1).getD j 0
          · rw [decide_eq_true h, Bool.true_and]
            refine Ev.step (fun k => ?_) (ihe (j + 1) (by omega))
            simp only [impl_SameStore.l1]
            rw [if_pos (by omega), if_pos (by omega), if_pos (by omega), if_pos (by omega), rd_nat, rd_nat, if_pos h, wsucc (i := j) (n := 16) (by omega) (by omega)]
          · rw [decide_eq_false h, Bool.false_and, Bool.false_and]
            refine Ev.step (f := fun _ => some false) (fun k => ?_) (Ev.now _)
            simp only [impl_SameStore.l1]
            rw [if_pos (by omega), if_pos (by omega), if_pos (by omega), if_pos (by omega), rd_nat, rd_nat, if_neg h]
      refine Ev.step (f := fun k => (impl_AllAt.f k b (w.getD i z147).f1).bind fun t => if (v.getD i z147).f0 = (w.getD i z147).f0 then (impl_AllAt.f k a (v.getD i z147).f1).bind fun u => impl_SameStore.l1 k t v (v.length : Int) (i : Int) u (u.length : Int) 0 v a n w b m else some false) (fun k => ?_) (ev_bind (iAllAt_ev b _ hb) ?_)
      · simp only [impl_SameStore.l0]
        rw [if_pos (by omega), if_pos (by omega), if_pos (by omega), if_pos (by omega), rdIV_nat, rdIV_nat]
      · simp only [sameFrom]
        by_cases h : (v.getD i z147).f0 = (w.getD i z147).f0
        · rw [decide_eq_true h, Bool.true_and]
          simp only [if_pos h]
          refine ev_bind (iAllAt_ev a _ ha) ?_
          have := inner 16 0 rfl
          rw [List.drop_zero, List.drop_zero] at this
          simp only [allB_len]
          exact this
        · rw [decide_eq_false h, Bool.false_and]
          simp only [if_neg h]
          exact Ev.now _
  have st : ∀ q, Ev (fun k => impl_SameStore.j0 k q v a n w b m) (if q = true then false else sameFrom v a w b v.length 0) ∨ v.length ≠ w.length := fun q => by
    by_cases hvw : v.length = w.length
    · left
      cases q
      · exact Ev.step (fun k => by simp only [impl_SameStore.j0]; rw [if_neg (by decide)]; rfl) (main hvw v.length 0 (by omega))
      · exact Ev.step (f := fun _ => some false) (fun k => by simp only [impl_SameStore.j0]; rw [if_pos trivial]) (Ev.now _)
    · exact .inr hvw
  unfold impl_SameStore.f sameB
  by_cases hvw : v.length = w.length
  · simp only [if_pos (show (v.length : Int) = (w.length : Int) by omega)]
    have := (st (n != m)).resolve_right (fun h => h hvw)
    by_cases hn : n = m
    · rw [if_pos ⟨hvw, hn⟩]
      rw [if_neg (by simp [hn])] at this
      exact this
    · rw [if_neg (fun h => hn h.2)]
      rw [if_pos (by simp [hn])] at this
      exact this
  · simp only [if_neg (show ¬ (v.length : Int) = (w.length : Int) by omega)]
    rw [if_neg (fun h => hvw h.1)]
    exact Ev.step (f := fun _ => some false) (fun k => by simp only [impl_SameStore.j0]; rw [if_pos trivial]) (Ev.now _)
theorem sInts_ev (x y : List Int) (hx : x.length ≤ 1048576) : Ev (fun k => spec_l12SameInts.f k x y) (decide (x = y)) := by
  unfold spec_l12SameInts.f
  by_cases hl : x.length = y.length
  · have main : ∀ (d i : Nat), i + d = x.length → Ev (fun k => spec_l12SameInts.l0 k x y (i : Int)) (decide (x.drop i = y.drop i)) := by
      intro d
      induction d with
      | zero =>
        intro i hi
        refine ev_some fun k => ?_
        simp only [spec_l12SameInts.l0]
        rw [if_neg (by omega), List.drop_eq_nil_of_le (by omega), List.drop_eq_nil_of_le (by omega)]
        rfl
      | succ d ih =>
        intro i hi
        rw [drop_get 0 (show i < x.length by omega), drop_get 0 (show i < y.length by omega), dec_cons]
        by_cases h : x.getD i 0 = y.getD i 0
        · rw [decide_eq_true h, Bool.true_and]
          refine Ev.step (fun k => ?_) (ih (i + 1) (by omega))
          simp only [spec_l12SameInts.l0]
          rw [if_pos (by omega), if_pos (by omega), if_pos (by omega), rd_nat, rd_nat, if_pos h, wsucc (n := x.length) (by omega) (by omega)]
        · rw [decide_eq_false h, Bool.false_and]
          refine Ev.step (f := fun _ => some false) (fun k => ?_) (Ev.now _)
          simp only [spec_l12SameInts.l0]
          rw [if_pos (by omega), if_pos (by omega), if_pos (by omega), rd_nat, rd_nat, if_neg h]
    have h := main x.length 0 (by omega)
    rw [List.drop_zero, List.drop_zero] at h
    simp only [if_pos (show (x.length : Int) = (y.length : Int) by omega)]
    exact h
  · simp only [if_neg (show ¬ (x.length : Int) = (y.length : Int) by omega)]
    rw [decide_eq_false (fun h => hl (by rw [h]))]
    exact Ev.now _
theorem sSame_ev (v : List S147) (a : List S133) (n : Int) (w : List S147) (b : List S133) (m : Int) (hv : v.length ≤ 1048576) (ha : a.length ≤ 9223372036854775807) (hb : b.length ≤ 9223372036854775807) : Ev (fun k => spec_SameStore.f k v a n w b m) (sameB v a n w b m) := by
  have main : v.length = w.length → ∀ (d i : Nat), i + d = v.length → Ev (fun k => spec_SameStore.l0 k (i : Int) v a n w b m) (sameFrom v a w b d i) := by
    intro hvw d
    induction d with
    | zero =>
      intro i hi
      refine ev_some fun k => ?_
      simp only [spec_SameStore.l0]
      rw [if_neg (by omega)]; rfl
    | succ d ih =>
      intro i hi
      have hil : i < v.length := by omega
      simp only [sameFrom]
      by_cases h : (v.getD i z147).f0 = (w.getD i z147).f0
      · rw [decide_eq_true h, Bool.true_and]
        refine Ev.step (f := fun k => (spec_AllAt.f k a (v.getD i z147).f1).bind fun t => (spec_AllAt.f k b (w.getD i z147).f1).bind fun u => (spec_l12SameInts.f k t u).bind fun q => if q = true then spec_SameStore.l0 k ((i + 1 : Nat) : Int) v a n w b m else some false) (fun k => ?_) (ev_bind (sAllAt_ev a _ ha) (ev_bind (sAllAt_ev b _ hb) (ev_bind (sInts_ev _ _ (by rw [allB_len]; omega)) ?_)))
        · simp only [spec_SameStore.l0]
          rw [if_pos (by omega), if_pos (by omega), if_pos (by omega), rdIV_nat, rdIV_nat, if_pos h, wsucc (n := v.length) hil (by omega)]
        · by_cases h2 : allB a (v.getD i z147).f1 = allB b (w.getD i z147).f1
          · rw [decide_eq_true h2, Bool.true_and]
            simp only [if_true]
            exact ih (i + 1) (by omega)
          · rw [decide_eq_false h2, Bool.false_and]
            exact Ev.now _
      · rw [decide_eq_false h, Bool.false_and]
        refine Ev.step (f := fun _ => some false) (fun k => ?_) (Ev.now _)
        simp only [spec_SameStore.l0]
        rw [if_pos (by omega), if_pos (by omega), if_pos (by omega), rdIV_nat, rdIV_nat, if_neg h]
  unfold spec_SameStore.f sameB
  by_cases hvw : v.length = w.length
  · simp only [if_pos (show (v.length : Int) = (w.length : Int) by omega)]
    by_cases hn : n = m
    · rw [if_pos ⟨hvw, hn⟩]
      exact Ev.step (fun k => by simp only [spec_SameStore.j0]; rw [if_neg (by simp [hn])]; rfl) (main hvw v.length 0 (by omega))
    · rw [if_neg (fun h => hn h.2)]
      exact Ev.step (f := fun _ => some false) (fun k => by simp only [spec_SameStore.j0]; rw [if_pos (by simp [hn])]) (Ev.now _)
  · simp only [if_neg (show ¬ (v.length : Int) = (w.length : Int) by omega)]
    rw [if_neg (fun h => hvw h.1)]
    exact Ev.step (f := fun _ => some false) (fun k => by simp only [spec_SameStore.j0]; rw [if_pos trivial]) (Ev.now _)
end Go.Proofs.Ytdolplcbokioaaa.Pu

/- FnExactSameStore: the program and the reference answer alike whether two stores tell the same. -/
namespace Go.Proofs.Ytdolplcbokioaaa.Pure
set_option linter.unusedVariables false
set_option linter.unusedSimpArgs false
open Go.RowKit Go.Proofs.Ytdolplcbokioaaa.PB Go.Proofs.YtdolplcbokioaaaW.PrintWords Go.Proofs.Ytdolplcbokioaaa.Pu

theorem FnExactSameStore : ∀ (l0_0 : List S184) (l0_1 : List S175) (a0_2 : Int) (l1_0 : List S184) (l1_1 : List S175) (a1_2 : Int), (l0_0.length ≤ maxLen ∧ ∀ x_l0_0 ∈ l0_0, ((Lit.int .i64 x_l0_0.f0).wf = true ∧ (Lit.int .i64 x_l0_0.f1).wf = true)) → (l0_1.length ≤ maxLen ∧ ∀ x_l0_1 ∈ l0_1, (True ∧ (x_l0_1.f1.length ≤ maxLen ∧ ∀ x_x_l0_1f1 ∈ x_l0_1.f1, (Lit.int .i64 x_x_l0_1f1).wf = true))) → (Lit.int .i64 a0_2).wf = true → (l1_0.length ≤ maxLen ∧ ∀ x_l1_0 ∈ l1_0, ((Lit.int .i64 x_l1_0.f0).wf = true ∧ (Lit.int .i64 x_l1_0.f1).wf = true)) → (l1_1.length ≤ maxLen ∧ ∀ x_l1_1 ∈ l1_1, (True ∧ (x_l1_1.f1.length ≤ maxLen ∧ ∀ x_x_l1_1f1 ∈ x_l1_1.f1, (Lit.int .i64 x_x_l1_1f1).wf = true))) → (Lit.int .i64 a1_2).wf = true → ∃ k, laws_FnExactSameStore.f k l0_0 l0_1 a0_2 l1_0 l1_1 a1_2 = some true := by
  intro v l n w m o ⟨hv, _⟩ ⟨hl, hx⟩ _ ⟨hw, _⟩ ⟨hm, hy⟩ _
  refine Ev.rounds (g := fun k => laws_FnExactSameStore.f k v l n w m o) ?_
  obtain ⟨r, hr, hra, hq⟩ := store_start (n := n) (a := 1048576) (by omega) (by omega) hv hl (fun x h => (hx x h).2.1)
  unfold laws_FnExactSameStore.f
  refine ev_bind hr ?_
  by_cases h : r < 0
  · simp only [if_pos h]; exact Ev.now _
  · simp only [if_neg h]
    obtain ⟨hto, heq, hn, ha, _⟩ := hq (by omega)
    obtain ⟨r2, hr2, _, hq2⟩ := store_start (n := o) (a := r) (by omega) (by omega) hw hm (fun x h => (hy x h).2.1)
    refine ev_bind hr2 ?_
    by_cases h2 : r2 < 0
    · simp only [if_pos h2]; exact Ev.now _
    · simp only [if_neg h2]
      obtain ⟨hto2, heq2, hn2, ha2, _⟩ := hq2 (by omega)
      have ha3 : (toA l).length ≤ 9223372036854775807 := by omega
      have ha4 : (toA m).length ≤ 9223372036854775807 := by omega
      refine ev_bind hto (ev_bind hto2 (ev_bind (sSame_ev _ _ n _ _ o hn ha3 ha4) (ev_bind hto (ev_bind hto2 (ev_bind (iSame_ev _ _ n _ _ o hn ha3 ha4) ?_)))))
      simp only [bne_self_eq_false, Bool.false_eq_true, if_false]
      refine ev_bind hto (ev_bind heq ?_)
      simp only [if_true]
      refine ev_bind hto2 (ev_bind heq2 ?_)
      simp only [if_true]
      exact Ev.now _
end Go.Proofs.Ytdolplcbokioaaa.Pure

/- FnExactSameStore: whatever the input, the law returns true, and its arguments read as they did. The row, out of the law's own walk and the pure statement. -/
namespace Go.Proofs.Ytdolplcbokioaaa.fnExactSameStore
open Go.ChangeShapes Go.WideShapes Go.ChangeAt Go.RowKit Go.Proofs.Ytdolplcbokioaaa.Open Go.Proofs.YtdolplcbokioaaaW.PrintWords Go.Proofs.Ytdolplcbokioaaa.PB
open Go.ChangeMaps (open_string shut_string)
theorem own : ownKnob Try.prog.godebug = none := by kernel_rfl
theorem laidOut : laidOutB Try.prog = true := by kernel_rfl
set_option maxRecDepth 100000 in
theorem o175 : Opn Try.prog 175 k175 (fun x => (True ∧ (x.f1.length ≤ maxLen ∧ ∀ x_xf1 ∈ x.f1, (Lit.int .i64 x_xf1).wf = true))) := opn_struct (d := (Kd.pair Kd.bool (Kd.slice 3 (Kd.int .i64)))) (wf := fun (y : Bool × (List Int)) => (True ∧ (y.2.length ≤ maxLen ∧ ∀ x_y2 ∈ y.2, (Lit.int .i64 x_y2).wf = true))) (fun x : S175 => (x.f0, x.f1)) (fun y => (⟨y.1, y.2⟩ : S175)) (fun _ => rfl) Try.underlying175 (by kernel_rfl) (opnF_cons rfl (by kernel_rfl) (opn_bool Try.underlying4) (opnF_one rfl (by kernel_rfl) (opn_slice Try.underlying26 (by kernel_rfl) (opn_int Try.underlying3))))
set_option maxRecDepth 100000 in
theorem p53 : Opn Try.prog 53 (Kd.slice 175 k175) (fun (y : (List S175)) => (y.length ≤ maxLen ∧ ∀ x_y ∈ y, (True ∧ (x_y.f1.length ≤ maxLen ∧ ∀ x_x_yf1 ∈ x_y.f1, (Lit.int .i64 x_x_yf1).wf = true)))) := opn_tuple Try.underlying53 (by kernel_rfl) (opnF_one rfl (by kernel_rfl) (opn_slice Try.underlying51 (by kernel_rfl) o175))
set_option maxRecDepth 100000 in
theorem o184 : Opn Try.prog 184 k184 (fun x => ((Lit.int .i64 x.f0).wf = true ∧ (Lit.int .i64 x.f1).wf = true)) := opn_struct (d := (Kd.pair (Kd.int .i64) (Kd.int .i64))) (wf := fun (y : Int × Int) => ((Lit.int .i64 y.1).wf = true ∧ (Lit.int .i64 y.2).wf = true)) (fun x : S184 => (x.f0, x.f1)) (fun y => (⟨y.1, y.2⟩ : S184)) (fun _ => rfl) Try.underlying184 (by kernel_rfl) (opnF_cons rfl (by kernel_rfl) (opn_int Try.underlying3) (opnF_one rfl (by kernel_rfl) (opn_int Try.underlying3)))
set_option maxRecDepth 100000 in
theorem p78 : Opn Try.prog 78 (Kd.pair (Kd.slice 184 k184) (Kd.pair (Kd.slice 175 k175) (Kd.int .i64))) (fun (y : ((List S184) × (List S175) × Int)) => ((y.1.length ≤ maxLen ∧ ∀ x_y1 ∈ y.1, ((Lit.int .i64 x_y1.f0).wf = true ∧ (Lit.int .i64 x_y1.f1).wf = true)) ∧ ((y.2.1.length ≤ maxLen ∧ ∀ x_y21 ∈ y.2.1, (True ∧ (x_y21.f1.length ≤ maxLen ∧ ∀ x_x_y21f1 ∈ x_y21.f1, (Lit.int .i64 x_x_y21f1).wf = true))) ∧ (Lit.int .i64 y.2.2).wf = true))) := opn_tuple Try.underlying78 (by kernel_rfl) (opnF_cons rfl (by kernel_rfl) (opn_slice Try.underlying76 (by kernel_rfl) o184) (opnF_cons (a := (Kd.slice 175 k175)) (wa := fun (y : (List S175)) => (y.length ≤ maxLen ∧ ∀ x_y ∈ y, (True ∧ (x_y.f1.length ≤ maxLen ∧ ∀ x_x_yf1 ∈ x_y.f1, (Lit.int .i64 x_x_yf1).wf = true)))) rfl (by kernel_rfl) p53 (opnF_one rfl (by kernel_rfl) (opn_int Try.underlying3))))
set_option maxRecDepth 100000 in
set_option maxHeartbeats 4000000 in
theorem lifted (os : Os) (started : os.Started) (H : Type) (enc : TypeId × Value → H) :
    ReturnsInHanded {} Try.checked os 11 .any (Rows.fnExactSameStoreSpec.pre6 enc Try.prog Try.f11 Rows.fnExactSameStoreRow.domain false) (Rows.fnExactSameStoreSpec.post enc Try.prog Try.f11 false true false false) := by
  refine returnsInHanded_of_change_sized (C := Try.checked) own started (by kernel_rfl) Try.func11
    (ChangeSpec.witness6 (enc := enc) (C := Try.checked) false ⟨#[], #[.agg #[.slice none 0 0, .slice none 0 0, .int .i64 0], .agg #[.slice none 0 0, .slice none 0 0, .int .i64 0]], []⟩ 8 (by kernel_rfl) (by kernel_rfl) (by kernel_rfl) (by kernel_rfl)) ?_
  intro W base args ds gs before hval0 hW hcnd hsz0 _
  have hval : ∀ (j : Nat) t v, Try.f11.params[j]? = some t → args[j]? = some v → Value.okWide Try.prog W .any base t v := hval0
  have hW' := hW
  obtain ⟨p, q, hA0, hV, rfl, hfz, hnd⟩ := hW
  have hA : DataW.TrodAll enc Try.prog W 0 (fun _ => true) true Try.f11.params.toList args.toList ds p := hA0
  rw [Try.params11] at hA hval
  obtain ⟨v0, vs0, d0, ds0, p0, q0, hargs, rfl, rfl, h0, r0⟩ := trodAll_cons hA
  obtain ⟨v1, vs1, d1, ds1, p1, q1, rfl, rfl, rfl, h1, r1⟩ := trodAll_cons r0
  obtain ⟨rfl, rfl, rfl⟩ := trodAll_nil r1
  obtain rfl : args = #[v0, v1] := by cases args; simp_all
  obtain ⟨rfl, rfl⟩ := trodVars_none hV
  have k0 := h0
  have lt0 : ∀ x ∈ p0, x.block < W.heap.size := by obtain ⟨m, hm⟩ := k0; exact DataW.trod_lt m _ _ _ hm
  obtain ⟨fu0, hf0⟩ := h0
  obtain ⟨y0, K0, Y0⟩ := p78 H enc W 0 (fun _ => true) true fu0 _ _ hf0
  obtain ⟨cs0, rfl, sz0⟩ := okWide_struct Try.underlying78 (hval 0 78 v0 rfl rfl)
  obtain ⟨c0_0, c0_r0, ec0_r0, hc0_0, hc0_r0⟩ := K0
  obtain ⟨Ac0_0, Cc0_0, Ec0_0, Lc0_0, Gc0_0⟩ := hc0_0
  obtain ⟨c0_r0_1, c0_r0_r1, ec0_r0_r1, hc0_r0_1, hc0_r0_r1⟩ := hc0_r0
  obtain ⟨Ac0_r0_1, Cc0_r0_1, Ec0_r0_1, Lc0_r0_1, Gc0_r0_1⟩ := hc0_r0_1
  have Ec0_r0_r1 := hc0_r0_r1
  have E0 : cs0 = #[.slice Ac0_0 y0.1.length Cc0_0, .slice Ac0_r0_1 y0.2.1.length Cc0_r0_1, .int .i64 y0.2.2] := by
    apply Array.toList_inj.1
    have z : cs0.toList = _ := ec0_r0
    rw [z]
    rw [ec0_r0_r1, Ec0_0, Ec0_r0_1, Ec0_r0_r1]
    rfl
  subst E0
  have k1 := h1
  have lt1 : ∀ x ∈ p1, x.block < W.heap.size := by obtain ⟨m, hm⟩ := k1; exact DataW.trod_lt m _ _ _ hm
  obtain ⟨fu1, hf1⟩ := h1
  obtain ⟨y1, K1, Y1⟩ := p78 H enc W 0 (fun _ => true) true fu1 _ _ hf1
  obtain ⟨cs1, rfl, sz1⟩ := okWide_struct Try.underlying78 (hval 1 78 v1 rfl rfl)
  obtain ⟨c1_0, c1_r0, ec1_r0, hc1_0, hc1_r0⟩ := K1
  obtain ⟨Ac1_0, Cc1_0, Ec1_0, Lc1_0, Gc1_0⟩ := hc1_0
  obtain ⟨c1_r0_1, c1_r0_r1, ec1_r0_r1, hc1_r0_1, hc1_r0_r1⟩ := hc1_r0
  obtain ⟨Ac1_r0_1, Cc1_r0_1, Ec1_r0_1, Lc1_r0_1, Gc1_r0_1⟩ := hc1_r0_1
  have Ec1_r0_r1 := hc1_r0_r1
  have E1 : cs1 = #[.slice Ac1_0 y1.1.length Cc1_0, .slice Ac1_r0_1 y1.2.1.length Cc1_r0_1, .int .i64 y1.2.2] := by
    apply Array.toList_inj.1
    have z : cs1.toList = _ := ec1_r0
    rw [z]
    rw [ec1_r0_r1, Ec1_0, Ec1_r0_1, Ec1_r0_r1]
    rfl
  subst E1
  obtain ⟨k, hp⟩ := Pure.FnExactSameStore y0.1 y0.2.1 y0.2.2 y1.1 y1.2.1 y1.2.2 Y0.1 Y0.2.1 Y0.2.2 Y1.1 Y1.2.1 Y1.2.2
  clear hA0 hval0 hsz0
  refine (laws_FnExactSameStore.calls k Ac0_0 Cc0_0 y0.1 Ac0_r0_1 Cc0_r0_1 y0.2.1 y0.2.2 Ac1_0 Cc1_0 y1.1 Ac1_r0_1 Cc1_r0_1 y1.2.1 y1.2.2 true ⟨rfl⟩ W Gc0_0 Lc0_0 Gc0_r0_1 Lc0_r0_1 Gc1_0 Lc1_0 Gc1_r0_1 Lc1_r0_1 hp).mono fun e W' ⟨he, bel0⟩ => ?_
  have bel : Below W.heap.size W W' := bel0
  subst he
  exact ⟨_, rfl, _, _, _, [], _, [], hW', trodAll_mk1 (shut_bool Try.underlying4 _), (trodAll_cons_mk (Below.trod laidOut (by kernel_rfl) (of_decide_eq_true (by kernel_rfl)) k0 bel lt0) (trodAll_cons_mk (Below.trod laidOut (by kernel_rfl) (of_decide_eq_true (by kernel_rfl)) k1 bel lt1) trodAll_mk0)), rfl, bel.frame _, fun h => by cases h⟩
theorem over : Rows.fnExactSameStoreRow.holds Try.pinned (OpenSpec.ofChange Rows.fnExactSameStoreSpec) :=
  OpenClaim.holds_of_wide 11 Try.f11 rfl rfl rfl rfl rfl rfl rfl ⟨rfl, rfl, rfl, rfl, rfl⟩ rfl rfl rfl rfl rfl (by kernel_rfl) Try.func11 (by kernel_rfl)
    (of_decide_eq_true (by kernel_rfl)) (by unfold Func.isWrapper; first | (rw [if_pos (by decide +kernel)]; kernel_rfl) | (rw [if_neg (by decide +kernel)]; exact ⟨rfl, rfl⟩))
    (fun os started H enc _ => lifted os started H enc)
theorem proved : Rows.FnExactSameStoreSaid := over
#print axioms proved
end Go.Proofs.Ytdolplcbokioaaa.fnExactSameStore
namespace Go.Proofs.Ytdolplcbokioaaa
/-- The row, under a short name, for the claim. -/
theorem fnExactSameStore_holds : Rows.FnExactSameStoreSaid := fnExactSameStore.proved
end Go.Proofs.Ytdolplcbokioaaa
