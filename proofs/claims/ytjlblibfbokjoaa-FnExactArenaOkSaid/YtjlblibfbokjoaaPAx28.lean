/- Functions of the translation as plain Lean functions, and for each that its call comes to just what its Lean function answers; its conditions stand in each theorem. Written by a program of this session. -/
import Derived.Test.YtjlblibfbokjoaaPAx0
import Derived.Test.YtjlblibfbokjoaaPAx5
namespace Go.Proofs.Ytjlblibfbokjoaa.PA
open Go.RowKit Go.Proofs.YtjlblibfbokjoaaW.PrintWords Go.Proofs.YtjlblibfbokjoaaW.PrintLast Go.Proofs.YtjlblibfbokjoaaW.PrintMore
attribute [local go_sem] max2_int min2_int max_two min_two max_three min_three max_four min_four   -- for this text's walks alone
set_option linter.unusedVariables false
set_option linter.unusedSimpArgs false

/-! ### impl_ArenaOk: function 27 -/
mutual
def impl_ArenaOk.l0 : Nat → List (S100) → Int → Int → List (S100) → Option (Bool)
  | 0, _, _, _, _ => none
  | k + 1, x8, x9, x10, x246000 => if x10 < x9 then (if 0 ≤ x10 then (if x10 < (x8.length : Int) then (if (((rd_T100 x8 x10).f1).length : Int) = 4 then (impl_ArenaOk.l1 k x10 x8 x9 x10 ((rd_T100 x8 x10).f1) (((rd_T100 x8 x10).f1).length : Int) 0 x246000 ((rd_T100 x8 x10).f0) ((rd_T100 x8 x10).f1)) else (some false)) else (none)) else (none)) else (some true)
def impl_ArenaOk.l1 : Nat → Int → List (S100) → Int → Int → List Int → Int → Int → List (S100) → Bool → List Int → Option (Bool)
  | 0, _, _, _, _, _, _, _, _, _, _ => none
  | k + 1, x3, x8, x9, x10, x20, x21, x22, x246000, x248000, x248001 => if x22 < x21 then (if 0 ≤ x22 then (if x22 < (x20.length : Int) then (if x248000 = true then (if (rd x20 x22) < 0 then (some false) else (impl_ArenaOk.l1 k x3 x8 x9 x10 x20 x21 (wrap64 (x22 + 1)) x246000 x248000 x248001)) else (if (rd x20 x22) = (-1) then (impl_ArenaOk.l1 k x3 x8 x9 x10 x20 x21 (wrap64 (x22 + 1)) x246000 x248000 x248001) else ((impl_in.f (rd x20 x22) 0 (wrap64 (x3 - 1))).bind fun t249 => (if t249 = true then (if 0 ≤ (rd x20 x22) then (if (rd x20 x22) < (x246000.length : Int) then (if ((rd_T100 x246000 (rd x20 x22)).f0 = true) then (impl_ArenaOk.l1 k x3 x8 x9 x10 x20 x21 (wrap64 (x22 + 1)) x246000 x248000 x248001) else (some false)) else (none)) else (none)) else (some false))))) else (none)) else (none)) else (impl_ArenaOk.l0 k x8 x9 (wrap64 (x10 + 1)) x246000)
end
def impl_ArenaOk.f (k : Nat) (l0_0 : List (S100)) : Option (Bool) := impl_ArenaOk.l0 k l0_0 (l0_0.length : Int) 0 l0_0
theorem impl_ArenaOk.mono_l : ∀ k, (∀ y0 y1 y2 y3, LeO (impl_ArenaOk.l0 k y0 y1 y2 y3) (impl_ArenaOk.l0 (k + 1) y0 y1 y2 y3)) ∧ (∀ y0 y1 y2 y3 y4 y5 y6 y7 y8 y9, LeO (impl_ArenaOk.l1 k y0 y1 y2 y3 y4 y5 y6 y7 y8 y9) (impl_ArenaOk.l1 (k + 1) y0 y1 y2 y3 y4 y5 y6 y7 y8 y9))
  | 0 => ⟨fun _ _ _ _ r h => by simp [impl_ArenaOk.l0] at h, fun _ _ _ _ _ _ _ _ _ _ r h => by simp [impl_ArenaOk.l1] at h⟩
  | k + 1 => by
    obtain ⟨ih0, ih1⟩ := impl_ArenaOk.mono_l k
    refine ⟨?_, ?_⟩
    · intro y0 y1 y2 y3
      unfold impl_ArenaOk.l0
      repeat' first
      | (with_reducible exact ih0 _ _ _ _)
      | (with_reducible exact ih1 _ _ _ _ _ _ _ _ _ _)
      | (with_reducible exact LeO.refl _)
      | (with_reducible exact LeO.none _)
      | (with_reducible refine LeO.ite ?_ ?_)
      | (with_reducible refine LeO.bind ?_ (fun _ => ?_))
      | exact ih0 _ _ _ _
      | exact ih1 _ _ _ _ _ _ _ _ _ _
      | exact LeO.none _
      | refine LeO.ite ?_ ?_
      | refine LeO.bind ?_ (fun _ => ?_)
    · intro y0 y1 y2 y3 y4 y5 y6 y7 y8 y9
      unfold impl_ArenaOk.l1
      repeat' first
      | (with_reducible exact ih0 _ _ _ _)
      | (with_reducible exact ih1 _ _ _ _ _ _ _ _ _ _)
      | (with_reducible exact LeO.refl _)
      | (with_reducible exact LeO.none _)
      | (with_reducible refine LeO.ite ?_ ?_)
      | (with_reducible refine LeO.bind ?_ (fun _ => ?_))
      | exact ih0 _ _ _ _
      | exact ih1 _ _ _ _ _ _ _ _ _ _
      | exact LeO.none _
      | refine LeO.ite ?_ ?_
      | refine LeO.bind ?_ (fun _ => ?_)
theorem impl_ArenaOk.mono : ∀ a0 k, LeO (impl_ArenaOk.f k a0) (impl_ArenaOk.f (k + 1) a0) := by
  intro a0 k
  obtain ⟨ih0, ih1⟩ := impl_ArenaOk.mono_l k
  unfold impl_ArenaOk.f
  repeat' first
      | (with_reducible exact ih0 _ _ _ _)
      | (with_reducible exact ih1 _ _ _ _ _ _ _ _ _ _)
      | (with_reducible exact LeO.refl _)
      | (with_reducible exact LeO.none _)
      | (with_reducible refine LeO.ite ?_ ?_)
      | (with_reducible refine LeO.bind ?_ (fun _ => ?_))
      | exact ih0 _ _ _ _
      | exact ih1 _ _ _ _ _ _ _ _ _ _
      | exact LeO.none _
      | refine LeO.ite ?_ ?_
      | refine LeO.bind ?_ (fun _ => ?_)
set_option maxHeartbeats 8000000 in
set_option maxRecDepth 100000 in
theorem impl_ArenaOk.calls (k : Nat) (A0_0 : Option Addr) (c0_0 : Nat) (l0_0 : List (S100)) (r : Bool) (w : World) (hr0_0 : Kd.C k100 w A0_0 l0_0.length l0_0) (hc0_0 : l0_0.length ≤ c0_0) (h : impl_ArenaOk.f k l0_0 = some r) :
    Calls Try.prog 27 #[.agg #[.slice A0_0 l0_0.length c0_0]] w fun e w' => e = .returned (.bool r) ∧ Below w.heap.size w w' := by
  have hu44 := Try.underlying44
  have hu100 := Try.underlying100
  have HR0_0 := Aside0.mk hr0_0
  have HC0_0 := Aside0.mk hc0_0
  clear hr0_0 hc0_0
  have HB := Aside0.mk (Below.refl w.heap.size w)
  have H : (impl_ArenaOk.l0 k l0_0 (l0_0.length : Int) 0 l0_0) = some r := h
  clear h
  have H' := Aside0.mk H
  clear H
  go_enter Try.func27, Try.ntmps27
  go_wp2_with (first | ((with_reducible refine gate_dst (N := 1) rfl ?_); refine box_event ?hg (N := 1) ?hd (cs := #[.slice A0_0 l0_0.length c0_0]) (t := 44) ?hr ?_; (case hd => rfl); (case hg => rfl); (case hr => first | (go_simp; done) | (go_simp; rfl)); intro gb245 hg w2 hbox hb; have n0_ := Aside0.mk (below_step (by repeat (first | (with_reducible first | exact HB.out | apply below_alloc | apply pw_below_drewN | apply below_drew1) | exact HB.out)) hb); have n1_ := Aside0.mk (hbox); have n2_ := Aside0.mk ((by rw [hg]; exact (below_size (by repeat (first | (with_reducible first | exact HB.out | apply below_alloc | apply pw_below_drewN | apply below_drew1) | exact HB.out))) : w.heap.size ≤ gb245)); have n3_ := Aside0.mk ((by rw [hg]; exact (below_size (by repeat (first | (with_reducible first | exact HB.out | apply below_alloc | apply pw_below_drewN | apply below_drew1) | exact HB.out))) : w.heap.size ≤ gb245)); clear HB; have HB := n0_; have BK245 := n1_; have GW245 := n2_; have GE245 := n3_; clear n0_ n1_ n2_ n3_; clear hb hbox hg; have hcz3_0 : w2.cell? ⟨gb245, 0, none⟩ = some (.slice A0_0 l0_0.length c0_0) := (blk_cell BK245.out 0).trans rfl; have hfz3_0 := blk_frozen BK245.out 0))
  go_loopg [10] k (fun kq v10 w' => ∃ (x10_1 : Int), v10 = .int .i64 x10_1 ∧ Aside0 (impl_ArenaOk.l0 kq l0_0 (l0_0.length : Int) x10_1 l0_0 = some r) ∧ Aside0 (kq ≤ k) ∧ Aside0 (w'.heap[gb245]? = some (.cells #[(.slice A0_0 l0_0.length c0_0)] 44 (0, 0))) ∧ Aside0 (Below w.heap.size w w'))
  case atStart => exact ⟨(0), (by first | rfl | (simp; done) | (simp [*]; done)), H', ⟨Nat.le_refl _⟩, ⟨by (with_reducible repeat (first | refine blk_drewN ?_ _ | refine blk_drew ?_ | refine blk_alloc ?_ _)); exact BK245.out⟩, ⟨by repeat (first | (with_reducible first | exact HB.out | apply below_alloc | apply pw_below_drewN | apply below_drew1 | refine below_set ?_ GE245.out) | exact HB.out)⟩⟩
  case round =>
    clear H'
    try clear c2
    try clear p2
    try clear hcz3_0
    try clear hfz3_0
    obtain ⟨x10_1, rfl, HA, HK1, BK245, HB⟩ := hrel
    cases gk with
    | zero => exact absurd HA.out (by simp [impl_ArenaOk.l0])
    | succ k1 =>
      have H := HA.out
      clear HA
      simp only [impl_ArenaOk.l0] at H
      by_cases c4 : x10_1 < (l0_0.length : Int)
      · rw [if_pos c4] at H
        have c4b0 : decide (x10_1 < (l0_0.length : Int)) = true := decide_eq_true c4
        clear c4
        by_cases c5 : 0 ≤ x10_1
        · rw [if_pos c5] at H
          have c5b0 : decide (0 ≤ x10_1) = true := decide_eq_true c5
          clear c5
          by_cases c6 : x10_1 < (l0_0.length : Int)
          · rw [if_pos c6] at H
            have c6b0 : decide (x10_1 < (l0_0.length : Int)) = true := decide_eq_true c6
            clear c6
            by_cases c7 : (((rd_T100 l0_0 x10_1).f1).length : Int) = 4
            · rw [if_pos c7] at H
              have c7b0 : ((((rd_T100 l0_0 x10_1).f1).length : Int) == 4) = true := beq_iff_eq.mpr c7
              have c7b1 : ((((rd_T100 l0_0 x10_1).f1).length : Int) != 4) = false := bne_eq_false_iff_eq.mpr c7
              clear c7
              have H' := Aside0.mk H
              clear H
              have p246 : 0 ≤ (x10_1 : Int) := of_decide_eq_true (by first | (with_reducible assumption) | assumption)
              have q246 : x10_1 < (l0_0.length : Int) := of_decide_eq_true (by first | (with_reducible assumption) | assumption)
              obtain ⟨ad246, A246_1, c246_1, e246, hx246_0, hx246_1, hl246_1, hi246_1⟩ := at_T100 HR0_0.out x10_1 p246 q246
              cases e246
              replace hx246_0 := (HB.out.cell (World.block_lt_of_cell? w _ hx246_0)).trans hx246_0
              replace hx246_1 := (HB.out.cell (World.block_lt_of_cell? w _ hx246_1)).trans hx246_1
              have HR246_1 := Aside0.mk hi246_1
              have HC246_1 := Aside0.mk hl246_1
              clear hi246_1 hl246_1
              replace p246 := eq_true p246
              replace q246 := eq_true q246
              go_wp2_with (first | ((with_reducible refine gate_dst (N := 4) rfl ?_); refine box_event ?hg (N := 4) ?hd (cs := #[.bool false, .slice none 0 0]) (t := 100) ?hr ?_; (case hd => rfl); (case hg => rfl); (case hr => first | (go_simp; done) | (go_simp; rfl)); intro gb247 hg w8 hbox hb; have n0_ := Aside0.mk (blk_below (g := gb245) (o := .cells #[.slice (some ad246) l0_0.length c0_0] 44 (0, 0)) (by (with_reducible repeat (first | refine blk_drewN ?_ _ | refine blk_drew ?_ | refine blk_alloc ?_ _)); exact BK245.out) hb); have n1_ := Aside0.mk (below_step (by repeat (first | (with_reducible first | exact HB.out | apply below_alloc | apply pw_below_drewN | apply below_drew1 | refine below_set ?_ GE245.out) | exact HB.out)) hb); have n2_ := Aside0.mk (hbox); have n3_ := Aside0.mk ((by rw [hg]; exact (below_size (by repeat (first | (with_reducible first | exact HB.out | apply below_alloc | apply pw_below_drewN | apply below_drew1 | refine below_set ?_ GE245.out) | exact HB.out))) : w.heap.size ≤ gb247)); have n4_ := Aside0.mk ((by rw [hg]; exact (below_size (by repeat (first | (with_reducible first | exact HB.out | apply below_alloc | apply pw_below_drewN | apply below_drew1 | refine below_set ?_ GE245.out) | exact HB.out))) : w.heap.size ≤ gb247)); have n5_ := Aside0.mk ((by rw [hg]; exact Nat.ne_of_lt (blk_lt (g := gb245) (o := .cells #[.slice (some ad246) l0_0.length c0_0] 44 (0, 0)) (by (with_reducible repeat (first | refine blk_drewN ?_ _ | refine blk_drew ?_ | refine blk_alloc ?_ _)); exact BK245.out)) : gb245 ≠ gb247)); have n6_ := Aside0.mk ((by rw [hg]; exact Nat.ne_of_gt (blk_lt (g := gb245) (o := .cells #[.slice (some ad246) l0_0.length c0_0] 44 (0, 0)) (by (with_reducible repeat (first | refine blk_drewN ?_ _ | refine blk_drew ?_ | refine blk_alloc ?_ _)); exact BK245.out)) : gb247 ≠ gb245)); clear BK245; clear HB; have BK245 := n0_; have HB := n1_; have BK247 := n2_; have GW247 := n3_; have GE247 := n4_; have NB245_247 := n5_; have NB247_245 := n6_; clear n0_ n1_ n2_ n3_ n4_ n5_ n6_; clear hb hbox hg; have hnb9 := NB247_245.out; have hnc9 := NB245_247.out; have hcz10_0 : w8.cell? ⟨gb247, 0, none⟩ = some (.bool false) := (blk_cell BK247.out 0).trans rfl; have hcz10_1 : w8.cell? ⟨gb247, 1, none⟩ = some (.slice none 0 0) := (blk_cell BK247.out 1).trans rfl; have hfz10_0 := blk_frozen BK247.out 0; have hfz10_1 := blk_frozen BK247.out 1))
              (try generalize (Value.agg #[.bool ((rd_T100 l0_0 x10_1).f0), .slice A246_1 ((rd_T100 l0_0 x10_1).f1).length c246_1]) = gd14)
              go_loopg [22] k1 (fun kq v22 w' => ∃ (x22_2 : Int), v22 = .int .i64 x22_2 ∧ Aside0 (impl_ArenaOk.l1 kq x10_1 l0_0 (l0_0.length : Int) x10_1 ((rd_T100 l0_0 x10_1).f1) (((rd_T100 l0_0 x10_1).f1).length : Int) x22_2 l0_0 ((rd_T100 l0_0 x10_1).f0) ((rd_T100 l0_0 x10_1).f1) = some r) ∧ Aside0 (kq ≤ k1) ∧ Aside0 (w'.heap[gb245]? = some (.cells #[(.slice (some ad246) l0_0.length c0_0)] 44 (0, 0))) ∧ Aside0 (w'.heap[gb247]? = some (.cells #[.bool ((rd_T100 l0_0 x10_1).f0), (.slice A246_1 ((rd_T100 l0_0 x10_1).f1).length c246_1)] 100 (0, 0))) ∧ Aside0 (Below w.heap.size w w'))
              case atStart => exact ⟨(0), (by first | rfl | (simp; done) | (simp [*]; done)), H', ⟨Nat.le_refl _⟩, ⟨by (with_reducible repeat (first | refine blk_drewN ?_ _ | refine blk_drew ?_ | refine blk_alloc ?_ _)); refine blk_far ?_ NB245_247.out _; (with_reducible repeat (first | refine blk_drewN ?_ _ | refine blk_drew ?_ | refine blk_alloc ?_ _)); refine blk_far ?_ NB245_247.out _; (with_reducible repeat (first | refine blk_drewN ?_ _ | refine blk_drew ?_ | refine blk_alloc ?_ _)); exact BK245.out⟩, ⟨by (with_reducible repeat (first | refine blk_drewN ?_ _ | refine blk_drew ?_ | refine blk_alloc ?_ _)); refine blk_put (cs := #[.bool ((rd_T100 l0_0 x10_1).f0), .slice none 0 0]) ?_ 1 _ rfl; (with_reducible repeat (first | refine blk_drewN ?_ _ | refine blk_drew ?_ | refine blk_alloc ?_ _)); refine blk_put (cs := #[.bool false, .slice none 0 0]) ?_ 0 _ rfl; (with_reducible repeat (first | refine blk_drewN ?_ _ | refine blk_drew ?_ | refine blk_alloc ?_ _)); exact BK247.out⟩, ⟨by repeat (first | (with_reducible first | exact HB.out | apply below_alloc | apply pw_below_drewN | apply below_drew1 | refine below_set ?_ GE245.out | refine below_set ?_ GE247.out) | exact HB.out)⟩⟩
              case round =>
                clear H'
                try clear c2
                try clear p2
                try clear q2
                try clear hx2
                try clear c4
                try clear c4b0
                try clear c5
                try clear c5b0
                try clear c6
                try clear c6b0
                try clear c7
                try clear c7b0
                try clear c7b1
                try clear c9
                try clear hcz10_0
                try clear hcz10_1
                try clear hcz3_0
                try clear hfz10_0
                try clear hfz10_1
                try clear hfz3_0
                try clear hx246_0
                try clear hx246_1
                try clear p2
                try clear p246
                try clear q246
                obtain ⟨x22_2, rfl, HA, HK2, BK245, BK247, HB⟩ := hrel
                cases gk with
                | zero => exact absurd HA.out (by simp [impl_ArenaOk.l1])
                | succ k2 =>
                  have H := HA.out
                  clear HA
                  simp only [impl_ArenaOk.l1] at H
                  by_cases c11 : x22_2 < (((rd_T100 l0_0 x10_1).f1).length : Int)
                  · rw [if_pos c11] at H
                    have c11b0 : decide (x22_2 < (((rd_T100 l0_0 x10_1).f1).length : Int)) = true := decide_eq_true c11
                    clear c11
                    by_cases c12 : 0 ≤ x22_2
                    · rw [if_pos c12] at H
                      have c12b0 : decide (0 ≤ x22_2) = true := decide_eq_true c12
                      clear c12
                      by_cases c13 : x22_2 < (((rd_T100 l0_0 x10_1).f1).length : Int)
                      · rw [if_pos c13] at H
                        have c13b0 : decide (x22_2 < (((rd_T100 l0_0 x10_1).f1).length : Int)) = true := decide_eq_true c13
                        clear c13
                        by_cases c14 : ((rd_T100 l0_0 x10_1).f0) = true
                        · rw [if_pos c14] at H
                          have c14b0 : ((rd_T100 l0_0 x10_1).f0) = true := c14
                          clear c14
                          by_cases c15 : (rd ((rd_T100 l0_0 x10_1).f1) x22_2) < 0
                          · rw [if_pos c15] at H
                            have c15b0 : decide ((rd ((rd_T100 l0_0 x10_1).f1) x22_2) < 0) = true := decide_eq_true c15
                            clear c15
                            obtain rfl := Option.some.inj H
                            have p248 : 0 ≤ (x22_2 : Int) := of_decide_eq_true (by first | (with_reducible assumption) | assumption)
                            have q248 : x22_2 < (((rd_T100 l0_0 x10_1).f1).length : Int) := of_decide_eq_true (by first | (with_reducible assumption) | assumption)
                            obtain ⟨ad248, e248, hx248_0⟩ := Kd.at_int HR246_1.out x22_2 p248 q248
                            cases e248
                            replace hx248_0 := (HB.out.cell (World.block_lt_of_cell? w _ hx248_0)).trans hx248_0
                            replace p248 := eq_true p248
                            replace q248 := eq_true q248
                            have hnb16 := NB247_245.out
                            have hnc16 := NB245_247.out
                            have hcz17_0 : wr.cell? ⟨gb247, 0, none⟩ = some (.bool ((rd_T100 l0_0 x10_1).f0)) := (blk_cell BK247.out 0).trans rfl
                            have hcz17_1 : wr.cell? ⟨gb247, 1, none⟩ = some (.slice (some ad248) ((rd_T100 l0_0 x10_1).f1).length c246_1) := (blk_cell BK247.out 1).trans rfl
                            have hfz17_0 := blk_frozen BK247.out 0
                            have hfz17_1 := blk_frozen BK247.out 1
                            go_wp2
                            go_ret
                            exact ⟨by first | rfl | (simp [errW_none, errW_some] <;> rfl) | (simp [*, errW_none, errW_some] <;> rfl), by repeat (first | (with_reducible first | exact HB.out | apply below_alloc | apply pw_below_drewN | apply below_drew1 | refine below_set ?_ GE245.out | refine below_set ?_ GE247.out) | exact HB.out)⟩
                          · rw [if_neg c15] at H
                            have c15b0 : decide ((rd ((rd_T100 l0_0 x10_1).f1) x22_2) < 0) = false := decide_eq_false c15
                            clear c15
                            have H' := Aside0.mk H
                            clear H
                            have p248 : 0 ≤ (x22_2 : Int) := of_decide_eq_true (by first | (with_reducible assumption) | assumption)
                            have q248 : x22_2 < (((rd_T100 l0_0 x10_1).f1).length : Int) := of_decide_eq_true (by first | (with_reducible assumption) | assumption)
                            obtain ⟨ad248, e248, hx248_0⟩ := Kd.at_int HR246_1.out x22_2 p248 q248
                            cases e248
                            replace hx248_0 := (HB.out.cell (World.block_lt_of_cell? w _ hx248_0)).trans hx248_0
                            replace p248 := eq_true p248
                            replace q248 := eq_true q248
                            have hnb18 := NB247_245.out
                            have hnc18 := NB245_247.out
                            have hcz19_0 : wr.cell? ⟨gb247, 0, none⟩ = some (.bool ((rd_T100 l0_0 x10_1).f0)) := (blk_cell BK247.out 0).trans rfl
                            have hcz19_1 : wr.cell? ⟨gb247, 1, none⟩ = some (.slice (some ad248) ((rd_T100 l0_0 x10_1).f1).length c246_1) := (blk_cell BK247.out 1).trans rfl
                            have hfz19_0 := blk_frozen BK247.out 0
                            have hfz19_1 := blk_frozen BK247.out 1
                            go_wp2
                            go_roundg k2
                            case measure => have := HK1.out; have := HK2.out; omega
                            case rel => exact ⟨(wrap64 (x22_2 + 1)), (by first | rfl | (simp; done) | (simp [*]; done)), H', ⟨by have := HK1.out; have := HK2.out; omega⟩, ⟨by (with_reducible repeat (first | refine blk_drewN ?_ _ | refine blk_drew ?_ | refine blk_alloc ?_ _)); exact BK245.out⟩, ⟨by (with_reducible repeat (first | refine blk_drewN ?_ _ | refine blk_drew ?_ | refine blk_alloc ?_ _)); exact BK247.out⟩, ⟨by repeat (first | (with_reducible first | exact HB.out | apply below_alloc | apply pw_below_drewN | apply below_drew1 | refine below_set ?_ GE245.out | refine below_set ?_ GE247.out) | exact HB.out)⟩⟩
                        · rw [if_neg c14] at H
                          have c14b0 : ((rd_T100 l0_0 x10_1).f0) = false := by simpa using c14
                          clear c14
                          by_cases c20 : (rd ((rd_T100 l0_0 x10_1).f1) x22_2) = (-1)
                          · rw [if_pos c20] at H
                            have c20b0 : ((rd ((rd_T100 l0_0 x10_1).f1) x22_2) == (-1)) = true := beq_iff_eq.mpr c20
                            have c20b1 : ((rd ((rd_T100 l0_0 x10_1).f1) x22_2) != (-1)) = false := bne_eq_false_iff_eq.mpr c20
                            clear c20
                            have H' := Aside0.mk H
                            clear H
                            have p248 : 0 ≤ (x22_2 : Int) := of_decide_eq_true (by first | (with_reducible assumption) | assumption)
                            have q248 : x22_2 < (((rd_T100 l0_0 x10_1).f1).length : Int) := of_decide_eq_true (by first | (with_reducible assumption) | assumption)
                            obtain ⟨ad248, e248, hx248_0⟩ := Kd.at_int HR246_1.out x22_2 p248 q248
                            cases e248
                            replace hx248_0 := (HB.out.cell (World.block_lt_of_cell? w _ hx248_0)).trans hx248_0
                            replace p248 := eq_true p248
                            replace q248 := eq_true q248
                            have hnb21 := NB247_245.out
                            have hnc21 := NB245_247.out
                            have hcz22_0 : wr.cell? ⟨gb247, 0, none⟩ = some (.bool ((rd_T100 l0_0 x10_1).f0)) := (blk_cell BK247.out 0).trans rfl
                            have hcz22_1 : wr.cell? ⟨gb247, 1, none⟩ = some (.slice (some ad248) ((rd_T100 l0_0 x10_1).f1).length c246_1) := (blk_cell BK247.out 1).trans rfl
                            have hfz22_0 := blk_frozen BK247.out 0
                            have hfz22_1 := blk_frozen BK247.out 1
                            go_wp2
                            go_roundg k2
                            case measure => have := HK1.out; have := HK2.out; omega
                            case rel => exact ⟨(wrap64 (x22_2 + 1)), (by first | rfl | (simp; done) | (simp [*]; done)), H', ⟨by have := HK1.out; have := HK2.out; omega⟩, ⟨by (with_reducible repeat (first | refine blk_drewN ?_ _ | refine blk_drew ?_ | refine blk_alloc ?_ _)); exact BK245.out⟩, ⟨by (with_reducible repeat (first | refine blk_drewN ?_ _ | refine blk_drew ?_ | refine blk_alloc ?_ _)); exact BK247.out⟩, ⟨by repeat (first | (with_reducible first | exact HB.out | apply below_alloc | apply pw_below_drewN | apply below_drew1 | refine below_set ?_ GE245.out | refine below_set ?_ GE247.out) | exact HB.out)⟩⟩
                          · rw [if_neg c20] at H
                            have c20b0 : ((rd ((rd_T100 l0_0 x10_1).f1) x22_2) == (-1)) = false := beq_eq_false_iff_ne.mpr c20
                            have c20b1 : ((rd ((rd_T100 l0_0 x10_1).f1) x22_2) != (-1)) = true := bne_iff_ne.mpr c20
                            replace H := Option.bind_eq_some_iff.mp H
                            obtain ⟨t249, A230, H⟩ := H
                            replace H : (if t249 = true then (if 0 ≤ (rd ((rd_T100 l0_0 x10_1).f1) x22_2) then (if (rd ((rd_T100 l0_0 x10_1).f1) x22_2) < (l0_0.length : Int) then (if ((rd_T100 l0_0 (rd ((rd_T100 l0_0 x10_1).f1) x22_2)).f0 = true) then (impl_ArenaOk.l1 k2 x10_1 l0_0 (l0_0.length : Int) x10_1 ((rd_T100 l0_0 x10_1).f1) (((rd_T100 l0_0 x10_1).f1).length : Int) (wrap64 (x22_2 + 1)) l0_0 ((rd_T100 l0_0 x10_1).f0) ((rd_T100 l0_0 x10_1).f1)) else (some false)) else (none)) else (none)) else (some false)) = some r := H
                            have A23 := Aside0.mk A230
                            clear A230
                            by_cases c24 : t249 = true
                            · subst c24
                              have H1 : (if 0 ≤ (rd ((rd_T100 l0_0 x10_1).f1) x22_2) then (if (rd ((rd_T100 l0_0 x10_1).f1) x22_2) < (l0_0.length : Int) then (if ((rd_T100 l0_0 (rd ((rd_T100 l0_0 x10_1).f1) x22_2)).f0 = true) then (impl_ArenaOk.l1 k2 x10_1 l0_0 (l0_0.length : Int) x10_1 ((rd_T100 l0_0 x10_1).f1) (((rd_T100 l0_0 x10_1).f1).length : Int) (wrap64 (x22_2 + 1)) l0_0 ((rd_T100 l0_0 x10_1).f0) ((rd_T100 l0_0 x10_1).f1)) else (some false)) else (none)) else (none)) = some r := by rw [if_pos rfl] at H; exact H
                              clear H
                              have H := H1
                              clear H1
                              by_cases c25 : 0 ≤ (rd ((rd_T100 l0_0 x10_1).f1) x22_2)
                              · rw [if_pos c25] at H
                                have c25b0 : decide (0 ≤ (rd ((rd_T100 l0_0 x10_1).f1) x22_2)) = true := decide_eq_true c25
                                clear c25
                                by_cases c26 : (rd ((rd_T100 l0_0 x10_1).f1) x22_2) < (l0_0.length : Int)
                                · rw [if_pos c26] at H
                                  have c26b0 : decide ((rd ((rd_T100 l0_0 x10_1).f1) x22_2) < (l0_0.length : Int)) = true := decide_eq_true c26
                                  clear c26
                                  obtain ⟨bq27, hbq27⟩ : ∃ b_ : Bool, b_ = ((rd_T100 l0_0 (rd ((rd_T100 l0_0 x10_1).f1) x22_2)).f0) := ⟨_, rfl⟩
                                  replace H : (if (bq27 = true) then (impl_ArenaOk.l1 k2 x10_1 l0_0 (l0_0.length : Int) x10_1 ((rd_T100 l0_0 x10_1).f1) (((rd_T100 l0_0 x10_1).f1).length : Int) (wrap64 (x22_2 + 1)) l0_0 ((rd_T100 l0_0 x10_1).f0) ((rd_T100 l0_0 x10_1).f1)) else (some false)) = some r := by rw [← hbq27] at H; exact H
                                  have Nbq27 := Aside0.mk hbq27
                                  clear hbq27
                                  by_cases c28 : (bq27 = true)
                                  · subst c28
                                    have H1 : (impl_ArenaOk.l1 k2 x10_1 l0_0 (l0_0.length : Int) x10_1 ((rd_T100 l0_0 x10_1).f1) (((rd_T100 l0_0 x10_1).f1).length : Int) (wrap64 (x22_2 + 1)) l0_0 ((rd_T100 l0_0 x10_1).f0) ((rd_T100 l0_0 x10_1).f1)) = some r := by rw [if_pos rfl] at H; exact H
                                    clear H
                                    have H := H1
                                    clear H1
                                    have H' := Aside0.mk H
                                    clear H
                                    have p248 : 0 ≤ (x22_2 : Int) := of_decide_eq_true (by first | (with_reducible assumption) | assumption)
                                    have q248 : x22_2 < (((rd_T100 l0_0 x10_1).f1).length : Int) := of_decide_eq_true (by first | (with_reducible assumption) | assumption)
                                    obtain ⟨ad248, e248, hx248_0⟩ := Kd.at_int HR246_1.out x22_2 p248 q248
                                    cases e248
                                    replace hx248_0 := (HB.out.cell (World.block_lt_of_cell? w _ hx248_0)).trans hx248_0
                                    replace p248 := eq_true p248
                                    replace q248 := eq_true q248
                                    have hnb29 := NB247_245.out
                                    have hnc29 := NB245_247.out
                                    have hcz30_0 : wr.cell? ⟨gb247, 0, none⟩ = some (.bool ((rd_T100 l0_0 x10_1).f0)) := (blk_cell BK247.out 0).trans rfl
                                    have hcz30_1 : wr.cell? ⟨gb247, 1, none⟩ = some (.slice (some ad248) ((rd_T100 l0_0 x10_1).f1).length c246_1) := (blk_cell BK247.out 1).trans rfl
                                    have hfz30_0 := blk_frozen BK247.out 0
                                    have hfz30_1 := blk_frozen BK247.out 1
                                    go_wp2_with (first | (go_at_call 68; (with_reducible refine (impl_in.calls (rd ((rd_T100 l0_0 x10_1).f1) x22_2) 0 (wrap64 (x10_1 - 1)) true _ A23.out).mono ?_); rintro e w' ⟨rfl, ⟨nd, rfl⟩⟩; have hcz31_0 : wr.cell? ⟨gb245, 0, none⟩ = some (.slice (some ad246) l0_0.length c0_0) := (blk_cell BK245.out 0).trans rfl; have hfz31_0 := blk_frozen BK245.out 0; have p250 : 0 ≤ ((rd ((rd_T100 l0_0 x10_1).f1) x22_2) : Int) := of_decide_eq_true (by first | (with_reducible assumption) | assumption); have q250 : (rd ((rd_T100 l0_0 x10_1).f1) x22_2) < (l0_0.length : Int) := of_decide_eq_true (by first | (with_reducible assumption) | assumption); obtain ⟨ad250, A250_1, c250_1, e250, hx250_0, hx250_1, hl250_1, hi250_1⟩ := at_T100 HR0_0.out (rd ((rd_T100 l0_0 x10_1).f1) x22_2) p250 q250; (try rw [← Nbq27.out] at hx250_0); obtain rfl : ad246 = ad250 := (by injection e250); replace hx250_0 := (HB.out.cell (World.block_lt_of_cell? w _ hx250_0)).trans hx250_0; replace hx250_1 := (HB.out.cell (World.block_lt_of_cell? w _ hx250_1)).trans hx250_1; have HR250_1 := Aside0.mk hi250_1; have HC250_1 := Aside0.mk hl250_1; clear hi250_1 hl250_1; replace p250 := eq_true p250; replace q250 := eq_true q250))
                                    go_roundg k2
                                    case measure => have := HK1.out; have := HK2.out; omega
                                    case rel => exact ⟨(wrap64 (x22_2 + 1)), (by first | rfl | (simp; done) | (simp [*]; done)), H', ⟨by have := HK1.out; have := HK2.out; omega⟩, ⟨by (with_reducible repeat (first | refine blk_drewN ?_ _ | refine blk_drew ?_ | refine blk_alloc ?_ _)); exact BK245.out⟩, ⟨by (with_reducible repeat (first | refine blk_drewN ?_ _ | refine blk_drew ?_ | refine blk_alloc ?_ _)); exact BK247.out⟩, ⟨by repeat (first | (with_reducible first | exact HB.out | apply below_alloc | apply pw_below_drewN | apply below_drew1 | refine below_set ?_ GE245.out | refine below_set ?_ GE247.out) | exact HB.out)⟩⟩
                                  · replace c28 := Bool.eq_false_iff.mpr c28
                                    subst c28
                                    have H1 : (some false) = some r := by rw [if_neg (show ¬ (false = true) by decide)] at H; exact H
                                    clear H
                                    have H := H1
                                    clear H1
                                    obtain rfl := Option.some.inj H
                                    have p248 : 0 ≤ (x22_2 : Int) := of_decide_eq_true (by first | (with_reducible assumption) | assumption)
                                    have q248 : x22_2 < (((rd_T100 l0_0 x10_1).f1).length : Int) := of_decide_eq_true (by first | (with_reducible assumption) | assumption)
                                    obtain ⟨ad248, e248, hx248_0⟩ := Kd.at_int HR246_1.out x22_2 p248 q248
                                    cases e248
                                    replace hx248_0 := (HB.out.cell (World.block_lt_of_cell? w _ hx248_0)).trans hx248_0
                                    replace p248 := eq_true p248
                                    replace q248 := eq_true q248
                                    have hnb32 := NB247_245.out
                                    have hnc32 := NB245_247.out
                                    have hcz33_0 : wr.cell? ⟨gb247, 0, none⟩ = some (.bool ((rd_T100 l0_0 x10_1).f0)) := (blk_cell BK247.out 0).trans rfl
                                    have hcz33_1 : wr.cell? ⟨gb247, 1, none⟩ = some (.slice (some ad248) ((rd_T100 l0_0 x10_1).f1).length c246_1) := (blk_cell BK247.out 1).trans rfl
                                    have hfz33_0 := blk_frozen BK247.out 0
                                    have hfz33_1 := blk_frozen BK247.out 1
                                    go_wp2_with (first | (go_at_call 68; (with_reducible refine (impl_in.calls (rd ((rd_T100 l0_0 x10_1).f1) x22_2) 0 (wrap64 (x10_1 - 1)) true _ A23.out).mono ?_); rintro e w' ⟨rfl, ⟨nd, rfl⟩⟩; have hcz34_0 : wr.cell? ⟨gb245, 0, none⟩ = some (.slice (some ad246) l0_0.length c0_0) := (blk_cell BK245.out 0).trans rfl; have hfz34_0 := blk_frozen BK245.out 0; have p250 : 0 ≤ ((rd ((rd_T100 l0_0 x10_1).f1) x22_2) : Int) := of_decide_eq_true (by first | (with_reducible assumption) | assumption); have q250 : (rd ((rd_T100 l0_0 x10_1).f1) x22_2) < (l0_0.length : Int) := of_decide_eq_true (by first | (with_reducible assumption) | assumption); obtain ⟨ad250, A250_1, c250_1, e250, hx250_0, hx250_1, hl250_1, hi250_1⟩ := at_T100 HR0_0.out (rd ((rd_T100 l0_0 x10_1).f1) x22_2) p250 q250; (try rw [← Nbq27.out] at hx250_0); obtain rfl : ad246 = ad250 := (by injection e250); replace hx250_0 := (HB.out.cell (World.block_lt_of_cell? w _ hx250_0)).trans hx250_0; replace hx250_1 := (HB.out.cell (World.block_lt_of_cell? w _ hx250_1)).trans hx250_1; have HR250_1 := Aside0.mk hi250_1; have HC250_1 := Aside0.mk hl250_1; clear hi250_1 hl250_1; replace p250 := eq_true p250; replace q250 := eq_true q250))
                                    go_ret
                                    exact ⟨by first | rfl | (simp [errW_none, errW_some] <;> rfl) | (simp [*, errW_none, errW_some] <;> rfl), by repeat (first | (with_reducible first | exact HB.out | apply below_alloc | apply pw_below_drewN | apply below_drew1 | refine below_set ?_ GE245.out | refine below_set ?_ GE247.out) | exact HB.out)⟩
                                · rw [if_neg c26] at H
                                  exact absurd H (by simp)
                              · rw [if_neg c25] at H
                                exact absurd H (by simp)
                            · replace c24 := Bool.eq_false_iff.mpr c24
                              subst c24
                              have H1 : (some false) = some r := by rw [if_neg (show ¬ (false = true) by decide)] at H; exact H
                              clear H
                              have H := H1
                              clear H1
                              obtain rfl := Option.some.inj H
                              have p248 : 0 ≤ (x22_2 : Int) := of_decide_eq_true (by first | (with_reducible assumption) | assumption)
                              have q248 : x22_2 < (((rd_T100 l0_0 x10_1).f1).length : Int) := of_decide_eq_true (by first | (with_reducible assumption) | assumption)
                              obtain ⟨ad248, e248, hx248_0⟩ := Kd.at_int HR246_1.out x22_2 p248 q248
                              cases e248
                              replace hx248_0 := (HB.out.cell (World.block_lt_of_cell? w _ hx248_0)).trans hx248_0
                              replace p248 := eq_true p248
                              replace q248 := eq_true q248
                              have hnb35 := NB247_245.out
                              have hnc35 := NB245_247.out
                              have hcz36_0 : wr.cell? ⟨gb247, 0, none⟩ = some (.bool ((rd_T100 l0_0 x10_1).f0)) := (blk_cell BK247.out 0).trans rfl
                              have hcz36_1 : wr.cell? ⟨gb247, 1, none⟩ = some (.slice (some ad248) ((rd_T100 l0_0 x10_1).f1).length c246_1) := (blk_cell BK247.out 1).trans rfl
                              have hfz36_0 := blk_frozen BK247.out 0
                              have hfz36_1 := blk_frozen BK247.out 1
                              go_wp2_with (first | (go_at_call 68; (with_reducible refine (impl_in.calls (rd ((rd_T100 l0_0 x10_1).f1) x22_2) 0 (wrap64 (x10_1 - 1)) false _ A23.out).mono ?_); rintro e w' ⟨rfl, ⟨nd, rfl⟩⟩))
                              go_ret
                              exact ⟨by first | rfl | (simp [errW_none, errW_some] <;> rfl) | (simp [*, errW_none, errW_some] <;> rfl), by repeat (first | (with_reducible first | exact HB.out | apply below_alloc | apply pw_below_drewN | apply below_drew1 | refine below_set ?_ GE245.out | refine below_set ?_ GE247.out) | exact HB.out)⟩
                      · rw [if_neg c13] at H
                        exact absurd H (by simp)
                    · rw [if_neg c12] at H
                      exact absurd H (by simp)
                  · rw [if_neg c11] at H
                    have c11b0 : decide (x22_2 < (((rd_T100 l0_0 x10_1).f1).length : Int)) = false := decide_eq_false c11
                    clear c11
                    have H' := Aside0.mk H
                    clear H
                    go_wp2
                    go_roundg k2
                    case measure => have := HK1.out; have := HK2.out; omega
                    case rel => exact ⟨(wrap64 (x10_1 + 1)), (by first | rfl | (simp; done) | (simp [*]; done)), H', ⟨by have := HK1.out; have := HK2.out; omega⟩, ⟨by (with_reducible repeat (first | refine blk_drewN ?_ _ | refine blk_drew ?_ | refine blk_alloc ?_ _)); exact BK245.out⟩, ⟨by repeat (first | (with_reducible first | exact HB.out | apply below_alloc | apply pw_below_drewN | apply below_drew1 | refine below_set ?_ GE245.out | refine below_set ?_ GE247.out) | exact HB.out)⟩⟩
            · rw [if_neg c7] at H
              have c7b0 : ((((rd_T100 l0_0 x10_1).f1).length : Int) == 4) = false := beq_eq_false_iff_ne.mpr c7
              have c7b1 : ((((rd_T100 l0_0 x10_1).f1).length : Int) != 4) = true := bne_iff_ne.mpr c7
              obtain rfl := Option.some.inj H
              have p246 : 0 ≤ (x10_1 : Int) := of_decide_eq_true (by first | (with_reducible assumption) | assumption)
              have q246 : x10_1 < (l0_0.length : Int) := of_decide_eq_true (by first | (with_reducible assumption) | assumption)
              obtain ⟨ad246, A246_1, c246_1, e246, hx246_0, hx246_1, hl246_1, hi246_1⟩ := at_T100 HR0_0.out x10_1 p246 q246
              cases e246
              replace hx246_0 := (HB.out.cell (World.block_lt_of_cell? w _ hx246_0)).trans hx246_0
              replace hx246_1 := (HB.out.cell (World.block_lt_of_cell? w _ hx246_1)).trans hx246_1
              have HR246_1 := Aside0.mk hi246_1
              have HC246_1 := Aside0.mk hl246_1
              clear hi246_1 hl246_1
              replace p246 := eq_true p246
              replace q246 := eq_true q246
              go_wp2_with (first | ((with_reducible refine gate_dst (N := 4) rfl ?_); refine box_event ?hg (N := 4) ?hd (cs := #[.bool false, .slice none 0 0]) (t := 100) ?hr ?_; (case hd => rfl); (case hg => rfl); (case hr => first | (go_simp; done) | (go_simp; rfl)); intro gb247 hg w37 hbox hb; have n0_ := Aside0.mk (blk_below (g := gb245) (o := .cells #[.slice (some ad246) l0_0.length c0_0] 44 (0, 0)) (by (with_reducible repeat (first | refine blk_drewN ?_ _ | refine blk_drew ?_ | refine blk_alloc ?_ _)); exact BK245.out) hb); have n1_ := Aside0.mk (below_step (by repeat (first | (with_reducible first | exact HB.out | apply below_alloc | apply pw_below_drewN | apply below_drew1 | refine below_set ?_ GE245.out) | exact HB.out)) hb); have n2_ := Aside0.mk (hbox); have n3_ := Aside0.mk ((by rw [hg]; exact (below_size (by repeat (first | (with_reducible first | exact HB.out | apply below_alloc | apply pw_below_drewN | apply below_drew1 | refine below_set ?_ GE245.out) | exact HB.out))) : w.heap.size ≤ gb247)); have n4_ := Aside0.mk ((by rw [hg]; exact (below_size (by repeat (first | (with_reducible first | exact HB.out | apply below_alloc | apply pw_below_drewN | apply below_drew1 | refine below_set ?_ GE245.out) | exact HB.out))) : w.heap.size ≤ gb247)); have n5_ := Aside0.mk ((by rw [hg]; exact Nat.ne_of_lt (blk_lt (g := gb245) (o := .cells #[.slice (some ad246) l0_0.length c0_0] 44 (0, 0)) (by (with_reducible repeat (first | refine blk_drewN ?_ _ | refine blk_drew ?_ | refine blk_alloc ?_ _)); exact BK245.out)) : gb245 ≠ gb247)); have n6_ := Aside0.mk ((by rw [hg]; exact Nat.ne_of_gt (blk_lt (g := gb245) (o := .cells #[.slice (some ad246) l0_0.length c0_0] 44 (0, 0)) (by (with_reducible repeat (first | refine blk_drewN ?_ _ | refine blk_drew ?_ | refine blk_alloc ?_ _)); exact BK245.out)) : gb247 ≠ gb245)); clear BK245; clear HB; have BK245 := n0_; have HB := n1_; have BK247 := n2_; have GW247 := n3_; have GE247 := n4_; have NB245_247 := n5_; have NB247_245 := n6_; clear n0_ n1_ n2_ n3_ n4_ n5_ n6_; clear hb hbox hg; have hnb38 := NB247_245.out; have hnc38 := NB245_247.out; have hcz39_0 : w37.cell? ⟨gb247, 0, none⟩ = some (.bool false) := (blk_cell BK247.out 0).trans rfl; have hcz39_1 : w37.cell? ⟨gb247, 1, none⟩ = some (.slice none 0 0) := (blk_cell BK247.out 1).trans rfl; have hfz39_0 := blk_frozen BK247.out 0; have hfz39_1 := blk_frozen BK247.out 1))
              go_ret
              exact ⟨by first | rfl | (simp [errW_none, errW_some] <;> rfl) | (simp [*, errW_none, errW_some] <;> rfl), by repeat (first | (with_reducible first | exact HB.out | apply below_alloc | apply pw_below_drewN | apply below_drew1 | refine below_set ?_ GE245.out | refine below_set ?_ GE247.out) | exact HB.out)⟩
          · rw [if_neg c6] at H
            exact absurd H (by simp)
        · rw [if_neg c5] at H
          exact absurd H (by simp)
      · rw [if_neg c4] at H
        have c4b0 : decide (x10_1 < (l0_0.length : Int)) = false := decide_eq_false c4
        clear c4
        obtain rfl := Option.some.inj H
        go_wp2
        go_ret
        exact ⟨by first | rfl | (simp [errW_none, errW_some] <;> rfl) | (simp [*, errW_none, errW_some] <;> rfl), by repeat (first | (with_reducible first | exact HB.out | apply below_alloc | apply pw_below_drewN | apply below_drew1 | refine below_set ?_ GE245.out) | exact HB.out)⟩

end Go.Proofs.Ytjlblibfbokjoaa.PA
