/- Functions of the translation as plain Lean functions, and for each that its call comes to just what its Lean function answers; its conditions stand in each theorem. Written by a program of this session. -/
import Derived.Test.YtjlblibfbokjoaaPAx0
import Derived.Test.YtjlblibfbokjoaaPAx2
namespace Go.Proofs.Ytjlblibfbokjoaa.PA
open Go.RowKit Go.Proofs.YtjlblibfbokjoaaW.PrintWords Go.Proofs.YtjlblibfbokjoaaW.PrintLast Go.Proofs.YtjlblibfbokjoaaW.PrintMore
attribute [local go_sem] max2_int min2_int max_two min_two max_three min_three max_four min_four   -- for this text's walks alone
set_option linter.unusedVariables false
set_option linter.unusedSimpArgs false

/-! ### spec_ArenaOk: function 25 -/
mutual
def spec_ArenaOk.l0 : Nat → Int → List (S100) → Option (Bool)
  | 0, _, _ => none
  | k + 1, x3, x214000 => if x3 < (x214000.length : Int) then (if 0 ≤ x3 then (if (((rd_T100 x214000 x3).f1).length : Int) = 4 then (spec_ArenaOk.l1 k x3 0 x214000 ((rd_T100 x214000 x3).f0) ((rd_T100 x214000 x3).f1)) else (some false)) else (none)) else (some true)
def spec_ArenaOk.l1 : Nat → Int → Int → List (S100) → Bool → List Int → Option (Bool)
  | 0, _, _, _, _, _ => none
  | k + 1, x3, x5, x214000, x216000, x216001 => if x5 < 4 then (if 0 ≤ x5 then (if x5 < (x216001.length : Int) then (if x216000 = true then (if (rd x216001 x5) < 0 then (some false) else (spec_ArenaOk.l1 k x3 (wrap64 (x5 + 1)) x214000 x216000 x216001)) else (if (rd x216001 x5) = (-1) then (spec_ArenaOk.l1 k x3 (wrap64 (x5 + 1)) x214000 x216000 x216001) else ((spec_l01In.f (rd x216001 x5) 0 (wrap64 (x3 - 1))).bind fun t217 => (if t217 = true then (if 0 ≤ (rd x216001 x5) then (if (rd x216001 x5) < (x214000.length : Int) then (if ((rd_T100 x214000 (rd x216001 x5)).f0 = true) then (spec_ArenaOk.l1 k x3 (wrap64 (x5 + 1)) x214000 x216000 x216001) else (some false)) else (none)) else (none)) else (some false))))) else (none)) else (none)) else (spec_ArenaOk.l0 k (wrap64 (x3 + 1)) x214000)
end
def spec_ArenaOk.f (k : Nat) (l0_0 : List (S100)) : Option (Bool) := spec_ArenaOk.l0 k 0 l0_0
theorem spec_ArenaOk.mono_l : ∀ k, (∀ y0 y1, LeO (spec_ArenaOk.l0 k y0 y1) (spec_ArenaOk.l0 (k + 1) y0 y1)) ∧ (∀ y0 y1 y2 y3 y4, LeO (spec_ArenaOk.l1 k y0 y1 y2 y3 y4) (spec_ArenaOk.l1 (k + 1) y0 y1 y2 y3 y4))
  | 0 => ⟨fun _ _ r h => by simp [spec_ArenaOk.l0] at h, fun _ _ _ _ _ r h => by simp [spec_ArenaOk.l1] at h⟩
  | k + 1 => by
    obtain ⟨ih0, ih1⟩ := spec_ArenaOk.mono_l k
    refine ⟨?_, ?_⟩
    · intro y0 y1
      unfold spec_ArenaOk.l0
      repeat' first
      | (with_reducible exact ih0 _ _)
      | (with_reducible exact ih1 _ _ _ _ _)
      | (with_reducible exact LeO.refl _)
      | (with_reducible exact LeO.none _)
      | (with_reducible refine LeO.ite ?_ ?_)
      | (with_reducible refine LeO.bind ?_ (fun _ => ?_))
      | exact ih0 _ _
      | exact ih1 _ _ _ _ _
      | exact LeO.none _
      | refine LeO.ite ?_ ?_
      | refine LeO.bind ?_ (fun _ => ?_)
    · intro y0 y1 y2 y3 y4
      unfold spec_ArenaOk.l1
      repeat' first
      | (with_reducible exact ih0 _ _)
      | (with_reducible exact ih1 _ _ _ _ _)
      | (with_reducible exact LeO.refl _)
      | (with_reducible exact LeO.none _)
      | (with_reducible refine LeO.ite ?_ ?_)
      | (with_reducible refine LeO.bind ?_ (fun _ => ?_))
      | exact ih0 _ _
      | exact ih1 _ _ _ _ _
      | exact LeO.none _
      | refine LeO.ite ?_ ?_
      | refine LeO.bind ?_ (fun _ => ?_)
theorem spec_ArenaOk.mono : ∀ a0 k, LeO (spec_ArenaOk.f k a0) (spec_ArenaOk.f (k + 1) a0) := by
  intro a0 k
  obtain ⟨ih0, ih1⟩ := spec_ArenaOk.mono_l k
  unfold spec_ArenaOk.f
  repeat' first
      | (with_reducible exact ih0 _ _)
      | (with_reducible exact ih1 _ _ _ _ _)
      | (with_reducible exact LeO.refl _)
      | (with_reducible exact LeO.none _)
      | (with_reducible refine LeO.ite ?_ ?_)
      | (with_reducible refine LeO.bind ?_ (fun _ => ?_))
      | exact ih0 _ _
      | exact ih1 _ _ _ _ _
      | exact LeO.none _
      | refine LeO.ite ?_ ?_
      | refine LeO.bind ?_ (fun _ => ?_)
set_option maxHeartbeats 8000000 in
set_option maxRecDepth 100000 in
theorem spec_ArenaOk.calls (k : Nat) (A0_0 : Option Addr) (c0_0 : Nat) (l0_0 : List (S100)) (r : Bool) (w : World) (hr0_0 : Kd.C k100 w A0_0 l0_0.length l0_0) (hc0_0 : l0_0.length ≤ c0_0) (h : spec_ArenaOk.f k l0_0 = some r) :
    Calls Try.prog 25 #[.agg #[.slice A0_0 l0_0.length c0_0]] w fun e w' => e = .returned (.bool r) ∧ Below w.heap.size w w' := by
  have hu44 := Try.underlying44
  have hu100 := Try.underlying100
  have HR0_0 := Aside0.mk hr0_0
  have HC0_0 := Aside0.mk hc0_0
  clear hr0_0 hc0_0
  have HB := Aside0.mk (Below.refl w.heap.size w)
  have H : (spec_ArenaOk.l0 k 0 l0_0) = some r := h
  clear h
  have H' := Aside0.mk H
  clear H
  go_enter Try.func25, Try.ntmps25
  go_wp2_with (first | ((with_reducible refine gate_dst (N := 1) rfl ?_); refine box_event ?hg (N := 1) ?hd (cs := #[.slice A0_0 l0_0.length c0_0]) (t := 44) ?hr ?_; (case hd => rfl); (case hg => rfl); (case hr => first | (go_simp; done) | (go_simp; rfl)); intro gb213 hg w2 hbox hb; have n0_ := Aside0.mk (below_step (by repeat (first | (with_reducible first | exact HB.out | apply below_alloc | apply pw_below_drewN | apply below_drew1) | exact HB.out)) hb); have n1_ := Aside0.mk (hbox); have n2_ := Aside0.mk ((by rw [hg]; exact (below_size (by repeat (first | (with_reducible first | exact HB.out | apply below_alloc | apply pw_below_drewN | apply below_drew1) | exact HB.out))) : w.heap.size ≤ gb213)); have n3_ := Aside0.mk ((by rw [hg]; exact (below_size (by repeat (first | (with_reducible first | exact HB.out | apply below_alloc | apply pw_below_drewN | apply below_drew1) | exact HB.out))) : w.heap.size ≤ gb213)); clear HB; have HB := n0_; have BK213 := n1_; have GW213 := n2_; have GE213 := n3_; clear n0_ n1_ n2_ n3_; clear hb hbox hg))
  go_loopg [3] k (fun kq v3 w' => ∃ (x3_1 : Int), v3 = .int .i64 x3_1 ∧ Aside0 (spec_ArenaOk.l0 kq x3_1 l0_0 = some r) ∧ Aside0 (kq ≤ k) ∧ Aside0 (w'.heap[gb213]? = some (.cells #[(.slice A0_0 l0_0.length c0_0)] 44 (0, 0))) ∧ Aside0 (Below w.heap.size w w'))
  case atStart => exact ⟨(0), (by first | rfl | (simp; done) | (simp [*]; done)), H', ⟨Nat.le_refl _⟩, ⟨by (with_reducible repeat (first | refine blk_drewN ?_ _ | refine blk_drew ?_ | refine blk_alloc ?_ _)); exact BK213.out⟩, ⟨by repeat (first | (with_reducible first | exact HB.out | apply below_alloc | apply pw_below_drewN | apply below_drew1 | refine below_set ?_ GE213.out) | exact HB.out)⟩⟩
  case round =>
    clear H'
    try clear c2
    try clear p2
    obtain ⟨x3_1, rfl, HA, HK1, BK213, HB⟩ := hrel
    cases gk with
    | zero => exact absurd HA.out (by simp [spec_ArenaOk.l0])
    | succ k1 =>
      have H := HA.out
      clear HA
      simp only [spec_ArenaOk.l0] at H
      by_cases c3 : x3_1 < (l0_0.length : Int)
      · rw [if_pos c3] at H
        have c3b0 : decide (x3_1 < (l0_0.length : Int)) = true := decide_eq_true c3
        clear c3
        by_cases c4 : 0 ≤ x3_1
        · rw [if_pos c4] at H
          have c4b0 : decide (0 ≤ x3_1) = true := decide_eq_true c4
          clear c4
          by_cases c5 : (((rd_T100 l0_0 x3_1).f1).length : Int) = 4
          · rw [if_pos c5] at H
            have c5b0 : ((((rd_T100 l0_0 x3_1).f1).length : Int) == 4) = true := beq_iff_eq.mpr c5
            have c5b1 : ((((rd_T100 l0_0 x3_1).f1).length : Int) != 4) = false := bne_eq_false_iff_eq.mpr c5
            clear c5
            have H' := Aside0.mk H
            clear H
            have hcz6_0 : wr.cell? ⟨gb213, 0, none⟩ = some (.slice A0_0 l0_0.length c0_0) := (blk_cell BK213.out 0).trans rfl
            have hfz6_0 := blk_frozen BK213.out 0
            have p214 : 0 ≤ (x3_1 : Int) := of_decide_eq_true (by first | (with_reducible assumption) | assumption)
            have q214 : x3_1 < (l0_0.length : Int) := of_decide_eq_true (by first | (with_reducible assumption) | assumption)
            obtain ⟨ad214, A214_1, c214_1, e214, hx214_0, hx214_1, hl214_1, hi214_1⟩ := at_T100 HR0_0.out x3_1 p214 q214
            cases e214
            replace hx214_0 := (HB.out.cell (World.block_lt_of_cell? w _ hx214_0)).trans hx214_0
            replace hx214_1 := (HB.out.cell (World.block_lt_of_cell? w _ hx214_1)).trans hx214_1
            have HR214_1 := Aside0.mk hi214_1
            have HC214_1 := Aside0.mk hl214_1
            clear hi214_1 hl214_1
            replace p214 := eq_true p214
            replace q214 := eq_true q214
            go_wp2_with (first | ((with_reducible refine gate_dst (N := 4) rfl ?_); refine box_event ?hg (N := 4) ?hd (cs := #[.bool false, .slice none 0 0]) (t := 100) ?hr ?_; (case hd => rfl); (case hg => rfl); (case hr => first | (go_simp; done) | (go_simp; rfl)); intro gb215 hg w7 hbox hb; have n0_ := Aside0.mk (blk_below (g := gb213) (o := .cells #[.slice (some ad214) l0_0.length c0_0] 44 (0, 0)) (by (with_reducible repeat (first | refine blk_drewN ?_ _ | refine blk_drew ?_ | refine blk_alloc ?_ _)); exact BK213.out) hb); have n1_ := Aside0.mk (below_step (by repeat (first | (with_reducible first | exact HB.out | apply below_alloc | apply pw_below_drewN | apply below_drew1 | refine below_set ?_ GE213.out) | exact HB.out)) hb); have n2_ := Aside0.mk (hbox); have n3_ := Aside0.mk ((by rw [hg]; exact (below_size (by repeat (first | (with_reducible first | exact HB.out | apply below_alloc | apply pw_below_drewN | apply below_drew1 | refine below_set ?_ GE213.out) | exact HB.out))) : w.heap.size ≤ gb215)); have n4_ := Aside0.mk ((by rw [hg]; exact (below_size (by repeat (first | (with_reducible first | exact HB.out | apply below_alloc | apply pw_below_drewN | apply below_drew1 | refine below_set ?_ GE213.out) | exact HB.out))) : w.heap.size ≤ gb215)); have n5_ := Aside0.mk ((by rw [hg]; exact Nat.ne_of_lt (blk_lt (g := gb213) (o := .cells #[.slice (some ad214) l0_0.length c0_0] 44 (0, 0)) (by (with_reducible repeat (first | refine blk_drewN ?_ _ | refine blk_drew ?_ | refine blk_alloc ?_ _)); exact BK213.out)) : gb213 ≠ gb215)); have n6_ := Aside0.mk ((by rw [hg]; exact Nat.ne_of_gt (blk_lt (g := gb213) (o := .cells #[.slice (some ad214) l0_0.length c0_0] 44 (0, 0)) (by (with_reducible repeat (first | refine blk_drewN ?_ _ | refine blk_drew ?_ | refine blk_alloc ?_ _)); exact BK213.out)) : gb215 ≠ gb213)); clear BK213; clear HB; have BK213 := n0_; have HB := n1_; have BK215 := n2_; have GW215 := n3_; have GE215 := n4_; have NB213_215 := n5_; have NB215_213 := n6_; clear n0_ n1_ n2_ n3_ n4_ n5_ n6_; clear hb hbox hg; have hnb8 := NB215_213.out; have hnc8 := NB213_215.out; have hcz9_0 : w7.cell? ⟨gb215, 0, none⟩ = some (.bool false) := (blk_cell BK215.out 0).trans rfl; have hcz9_1 : w7.cell? ⟨gb215, 1, none⟩ = some (.slice none 0 0) := (blk_cell BK215.out 1).trans rfl; have hfz9_0 := blk_frozen BK215.out 0; have hfz9_1 := blk_frozen BK215.out 1))
            (try generalize (Value.agg #[.bool ((rd_T100 l0_0 x3_1).f0), .slice A214_1 ((rd_T100 l0_0 x3_1).f1).length c214_1]) = gd18)
            go_loopg [5] k1 (fun kq v5 w' => ∃ (x5_2 : Int), v5 = .int .i64 x5_2 ∧ Aside0 (spec_ArenaOk.l1 kq x3_1 x5_2 l0_0 ((rd_T100 l0_0 x3_1).f0) ((rd_T100 l0_0 x3_1).f1) = some r) ∧ Aside0 (kq ≤ k1) ∧ Aside0 (w'.heap[gb213]? = some (.cells #[(.slice (some ad214) l0_0.length c0_0)] 44 (0, 0))) ∧ Aside0 (w'.heap[gb215]? = some (.cells #[.bool ((rd_T100 l0_0 x3_1).f0), (.slice A214_1 ((rd_T100 l0_0 x3_1).f1).length c214_1)] 100 (0, 0))) ∧ Aside0 (Below w.heap.size w w'))
            case atStart => exact ⟨(0), (by first | rfl | (simp; done) | (simp [*]; done)), H', ⟨Nat.le_refl _⟩, ⟨by (with_reducible repeat (first | refine blk_drewN ?_ _ | refine blk_drew ?_ | refine blk_alloc ?_ _)); refine blk_far ?_ NB213_215.out _; (with_reducible repeat (first | refine blk_drewN ?_ _ | refine blk_drew ?_ | refine blk_alloc ?_ _)); refine blk_far ?_ NB213_215.out _; (with_reducible repeat (first | refine blk_drewN ?_ _ | refine blk_drew ?_ | refine blk_alloc ?_ _)); exact BK213.out⟩, ⟨by (with_reducible repeat (first | refine blk_drewN ?_ _ | refine blk_drew ?_ | refine blk_alloc ?_ _)); refine blk_put (cs := #[.bool ((rd_T100 l0_0 x3_1).f0), .slice none 0 0]) ?_ 1 _ rfl; (with_reducible repeat (first | refine blk_drewN ?_ _ | refine blk_drew ?_ | refine blk_alloc ?_ _)); refine blk_put (cs := #[.bool false, .slice none 0 0]) ?_ 0 _ rfl; (with_reducible repeat (first | refine blk_drewN ?_ _ | refine blk_drew ?_ | refine blk_alloc ?_ _)); exact BK215.out⟩, ⟨by repeat (first | (with_reducible first | exact HB.out | apply below_alloc | apply pw_below_drewN | apply below_drew1 | refine below_set ?_ GE213.out | refine below_set ?_ GE215.out) | exact HB.out)⟩⟩
            case round =>
              clear H'
              try clear c2
              try clear p2
              try clear q2
              try clear hx2
              try clear c3
              try clear c3b0
              try clear c4
              try clear c4b0
              try clear c5
              try clear c5b0
              try clear c5b1
              try clear c8
              try clear hcz6_0
              try clear hcz9_0
              try clear hcz9_1
              try clear hfz6_0
              try clear hfz9_0
              try clear hfz9_1
              try clear hx214_0
              try clear hx214_1
              try clear p2
              try clear p214
              try clear q214
              obtain ⟨x5_2, rfl, HA, HK2, BK213, BK215, HB⟩ := hrel
              cases gk with
              | zero => exact absurd HA.out (by simp [spec_ArenaOk.l1])
              | succ k2 =>
                have H := HA.out
                clear HA
                simp only [spec_ArenaOk.l1] at H
                by_cases c10 : x5_2 < 4
                · rw [if_pos c10] at H
                  have c10b0 : decide (x5_2 < 4) = true := decide_eq_true c10
                  clear c10
                  by_cases c11 : 0 ≤ x5_2
                  · rw [if_pos c11] at H
                    have c11b0 : decide (0 ≤ x5_2) = true := decide_eq_true c11
                    clear c11
                    by_cases c12 : x5_2 < (((rd_T100 l0_0 x3_1).f1).length : Int)
                    · rw [if_pos c12] at H
                      have c12b0 : decide (x5_2 < (((rd_T100 l0_0 x3_1).f1).length : Int)) = true := decide_eq_true c12
                      clear c12
                      by_cases c13 : ((rd_T100 l0_0 x3_1).f0) = true
                      · rw [if_pos c13] at H
                        have c13b0 : ((rd_T100 l0_0 x3_1).f0) = true := c13
                        clear c13
                        by_cases c14 : (rd ((rd_T100 l0_0 x3_1).f1) x5_2) < 0
                        · rw [if_pos c14] at H
                          have c14b0 : decide ((rd ((rd_T100 l0_0 x3_1).f1) x5_2) < 0) = true := decide_eq_true c14
                          clear c14
                          obtain rfl := Option.some.inj H
                          have hnb15 := NB215_213.out
                          have hnc15 := NB213_215.out
                          have hcz16_0 : wr.cell? ⟨gb215, 0, none⟩ = some (.bool ((rd_T100 l0_0 x3_1).f0)) := (blk_cell BK215.out 0).trans rfl
                          have hcz16_1 : wr.cell? ⟨gb215, 1, none⟩ = some (.slice A214_1 ((rd_T100 l0_0 x3_1).f1).length c214_1) := (blk_cell BK215.out 1).trans rfl
                          have hfz16_0 := blk_frozen BK215.out 0
                          have hfz16_1 := blk_frozen BK215.out 1
                          have p216 : 0 ≤ (x5_2 : Int) := of_decide_eq_true (by first | (with_reducible assumption) | assumption)
                          have q216 : x5_2 < (((rd_T100 l0_0 x3_1).f1).length : Int) := of_decide_eq_true (by first | (with_reducible assumption) | assumption)
                          obtain ⟨ad216, e216, hx216_0⟩ := Kd.at_int HR214_1.out x5_2 p216 q216
                          cases e216
                          replace hx216_0 := (HB.out.cell (World.block_lt_of_cell? w _ hx216_0)).trans hx216_0
                          replace p216 := eq_true p216
                          replace q216 := eq_true q216
                          go_wp2
                          go_ret
                          exact ⟨by first | rfl | (simp [errW_none, errW_some] <;> rfl) | (simp [*, errW_none, errW_some] <;> rfl), by repeat (first | (with_reducible first | exact HB.out | apply below_alloc | apply pw_below_drewN | apply below_drew1 | refine below_set ?_ GE213.out | refine below_set ?_ GE215.out) | exact HB.out)⟩
                        · rw [if_neg c14] at H
                          have c14b0 : decide ((rd ((rd_T100 l0_0 x3_1).f1) x5_2) < 0) = false := decide_eq_false c14
                          clear c14
                          have H' := Aside0.mk H
                          clear H
                          have hnb17 := NB215_213.out
                          have hnc17 := NB213_215.out
                          have hcz18_0 : wr.cell? ⟨gb215, 0, none⟩ = some (.bool ((rd_T100 l0_0 x3_1).f0)) := (blk_cell BK215.out 0).trans rfl
                          have hcz18_1 : wr.cell? ⟨gb215, 1, none⟩ = some (.slice A214_1 ((rd_T100 l0_0 x3_1).f1).length c214_1) := (blk_cell BK215.out 1).trans rfl
                          have hfz18_0 := blk_frozen BK215.out 0
                          have hfz18_1 := blk_frozen BK215.out 1
                          have p216 : 0 ≤ (x5_2 : Int) := of_decide_eq_true (by first | (with_reducible assumption) | assumption)
                          have q216 : x5_2 < (((rd_T100 l0_0 x3_1).f1).length : Int) := of_decide_eq_true (by first | (with_reducible assumption) | assumption)
                          obtain ⟨ad216, e216, hx216_0⟩ := Kd.at_int HR214_1.out x5_2 p216 q216
                          cases e216
                          replace hx216_0 := (HB.out.cell (World.block_lt_of_cell? w _ hx216_0)).trans hx216_0
                          replace p216 := eq_true p216
                          replace q216 := eq_true q216
                          go_wp2
                          go_roundg k2
                          case measure => have := HK1.out; have := HK2.out; omega
                          case rel => exact ⟨(wrap64 (x5_2 + 1)), (by first | rfl | (simp; done) | (simp [*]; done)), H', ⟨by have := HK1.out; have := HK2.out; omega⟩, ⟨by (with_reducible repeat (first | refine blk_drewN ?_ _ | refine blk_drew ?_ | refine blk_alloc ?_ _)); exact BK213.out⟩, ⟨by (with_reducible repeat (first | refine blk_drewN ?_ _ | refine blk_drew ?_ | refine blk_alloc ?_ _)); exact BK215.out⟩, ⟨by repeat (first | (with_reducible first | exact HB.out | apply below_alloc | apply pw_below_drewN | apply below_drew1 | refine below_set ?_ GE213.out | refine below_set ?_ GE215.out) | exact HB.out)⟩⟩
                      · rw [if_neg c13] at H
                        have c13b0 : ((rd_T100 l0_0 x3_1).f0) = false := by simpa using c13
                        clear c13
                        by_cases c19 : (rd ((rd_T100 l0_0 x3_1).f1) x5_2) = (-1)
                        · rw [if_pos c19] at H
                          have c19b0 : ((rd ((rd_T100 l0_0 x3_1).f1) x5_2) == (-1)) = true := beq_iff_eq.mpr c19
                          have c19b1 : ((rd ((rd_T100 l0_0 x3_1).f1) x5_2) != (-1)) = false := bne_eq_false_iff_eq.mpr c19
                          clear c19
                          have H' := Aside0.mk H
                          clear H
                          have hnb20 := NB215_213.out
                          have hnc20 := NB213_215.out
                          have hcz21_0 : wr.cell? ⟨gb215, 0, none⟩ = some (.bool ((rd_T100 l0_0 x3_1).f0)) := (blk_cell BK215.out 0).trans rfl
                          have hcz21_1 : wr.cell? ⟨gb215, 1, none⟩ = some (.slice A214_1 ((rd_T100 l0_0 x3_1).f1).length c214_1) := (blk_cell BK215.out 1).trans rfl
                          have hfz21_0 := blk_frozen BK215.out 0
                          have hfz21_1 := blk_frozen BK215.out 1
                          have p216 : 0 ≤ (x5_2 : Int) := of_decide_eq_true (by first | (with_reducible assumption) | assumption)
                          have q216 : x5_2 < (((rd_T100 l0_0 x3_1).f1).length : Int) := of_decide_eq_true (by first | (with_reducible assumption) | assumption)
                          obtain ⟨ad216, e216, hx216_0⟩ := Kd.at_int HR214_1.out x5_2 p216 q216
                          cases e216
                          replace hx216_0 := (HB.out.cell (World.block_lt_of_cell? w _ hx216_0)).trans hx216_0
                          replace p216 := eq_true p216
                          replace q216 := eq_true q216
                          go_wp2
                          go_roundg k2
                          case measure => have := HK1.out; have := HK2.out; omega
                          case rel => exact ⟨(wrap64 (x5_2 + 1)), (by first | rfl | (simp; done) | (simp [*]; done)), H', ⟨by have := HK1.out; have := HK2.out; omega⟩, ⟨by (with_reducible repeat (first | refine blk_drewN ?_ _ | refine blk_drew ?_ | refine blk_alloc ?_ _)); exact BK213.out⟩, ⟨by (with_reducible repeat (first | refine blk_drewN ?_ _ | refine blk_drew ?_ | refine blk_alloc ?_ _)); exact BK215.out⟩, ⟨by repeat (first | (with_reducible first | exact HB.out | apply below_alloc | apply pw_below_drewN | apply below_drew1 | refine below_set ?_ GE213.out | refine below_set ?_ GE215.out) | exact HB.out)⟩⟩
                        · rw [if_neg c19] at H
                          have c19b0 : ((rd ((rd_T100 l0_0 x3_1).f1) x5_2) == (-1)) = false := beq_eq_false_iff_ne.mpr c19
                          have c19b1 : ((rd ((rd_T100 l0_0 x3_1).f1) x5_2) != (-1)) = true := bne_iff_ne.mpr c19
                          replace H := Option.bind_eq_some_iff.mp H
                          obtain ⟨t217, A220, H⟩ := H
                          replace H : (if t217 = true then (if 0 ≤ (rd ((rd_T100 l0_0 x3_1).f1) x5_2) then (if (rd ((rd_T100 l0_0 x3_1).f1) x5_2) < (l0_0.length : Int) then (if ((rd_T100 l0_0 (rd ((rd_T100 l0_0 x3_1).f1) x5_2)).f0 = true) then (spec_ArenaOk.l1 k2 x3_1 (wrap64 (x5_2 + 1)) l0_0 ((rd_T100 l0_0 x3_1).f0) ((rd_T100 l0_0 x3_1).f1)) else (some false)) else (none)) else (none)) else (some false)) = some r := H
                          have A22 := Aside0.mk A220
                          clear A220
                          by_cases c23 : t217 = true
                          · subst c23
                            have H1 : (if 0 ≤ (rd ((rd_T100 l0_0 x3_1).f1) x5_2) then (if (rd ((rd_T100 l0_0 x3_1).f1) x5_2) < (l0_0.length : Int) then (if ((rd_T100 l0_0 (rd ((rd_T100 l0_0 x3_1).f1) x5_2)).f0 = true) then (spec_ArenaOk.l1 k2 x3_1 (wrap64 (x5_2 + 1)) l0_0 ((rd_T100 l0_0 x3_1).f0) ((rd_T100 l0_0 x3_1).f1)) else (some false)) else (none)) else (none)) = some r := by rw [if_pos rfl] at H; exact H
                            clear H
                            have H := H1
                            clear H1
                            by_cases c24 : 0 ≤ (rd ((rd_T100 l0_0 x3_1).f1) x5_2)
                            · rw [if_pos c24] at H
                              have c24b0 : decide (0 ≤ (rd ((rd_T100 l0_0 x3_1).f1) x5_2)) = true := decide_eq_true c24
                              clear c24
                              by_cases c25 : (rd ((rd_T100 l0_0 x3_1).f1) x5_2) < (l0_0.length : Int)
                              · rw [if_pos c25] at H
                                have c25b0 : decide ((rd ((rd_T100 l0_0 x3_1).f1) x5_2) < (l0_0.length : Int)) = true := decide_eq_true c25
                                clear c25
                                obtain ⟨bq26, hbq26⟩ : ∃ b_ : Bool, b_ = ((rd_T100 l0_0 (rd ((rd_T100 l0_0 x3_1).f1) x5_2)).f0) := ⟨_, rfl⟩
                                replace H : (if (bq26 = true) then (spec_ArenaOk.l1 k2 x3_1 (wrap64 (x5_2 + 1)) l0_0 ((rd_T100 l0_0 x3_1).f0) ((rd_T100 l0_0 x3_1).f1)) else (some false)) = some r := by rw [← hbq26] at H; exact H
                                have Nbq26 := Aside0.mk hbq26
                                clear hbq26
                                by_cases c27 : (bq26 = true)
                                · subst c27
                                  have H1 : (spec_ArenaOk.l1 k2 x3_1 (wrap64 (x5_2 + 1)) l0_0 ((rd_T100 l0_0 x3_1).f0) ((rd_T100 l0_0 x3_1).f1)) = some r := by rw [if_pos rfl] at H; exact H
                                  clear H
                                  have H := H1
                                  clear H1
                                  have H' := Aside0.mk H
                                  clear H
                                  have hnb28 := NB215_213.out
                                  have hnc28 := NB213_215.out
                                  have hcz29_0 : wr.cell? ⟨gb215, 0, none⟩ = some (.bool ((rd_T100 l0_0 x3_1).f0)) := (blk_cell BK215.out 0).trans rfl
                                  have hcz29_1 : wr.cell? ⟨gb215, 1, none⟩ = some (.slice A214_1 ((rd_T100 l0_0 x3_1).f1).length c214_1) := (blk_cell BK215.out 1).trans rfl
                                  have hfz29_0 := blk_frozen BK215.out 0
                                  have hfz29_1 := blk_frozen BK215.out 1
                                  have p216 : 0 ≤ (x5_2 : Int) := of_decide_eq_true (by first | (with_reducible assumption) | assumption)
                                  have q216 : x5_2 < (((rd_T100 l0_0 x3_1).f1).length : Int) := of_decide_eq_true (by first | (with_reducible assumption) | assumption)
                                  obtain ⟨ad216, e216, hx216_0⟩ := Kd.at_int HR214_1.out x5_2 p216 q216
                                  cases e216
                                  replace hx216_0 := (HB.out.cell (World.block_lt_of_cell? w _ hx216_0)).trans hx216_0
                                  replace p216 := eq_true p216
                                  replace q216 := eq_true q216
                                  go_wp2_with (first | (go_at_call 67; (with_reducible refine (spec_l01In.calls (rd ((rd_T100 l0_0 x3_1).f1) x5_2) 0 (wrap64 (x3_1 - 1)) true _ A22.out).mono ?_); rintro e w' ⟨rfl, ⟨nd, rfl⟩⟩; have hcz30_0 : wr.cell? ⟨gb213, 0, none⟩ = some (.slice (some ad214) l0_0.length c0_0) := (blk_cell BK213.out 0).trans rfl; have hfz30_0 := blk_frozen BK213.out 0; have p218 : 0 ≤ ((rd ((rd_T100 l0_0 x3_1).f1) x5_2) : Int) := of_decide_eq_true (by first | (with_reducible assumption) | assumption); have q218 : (rd ((rd_T100 l0_0 x3_1).f1) x5_2) < (l0_0.length : Int) := of_decide_eq_true (by first | (with_reducible assumption) | assumption); obtain ⟨ad218, A218_1, c218_1, e218, hx218_0, hx218_1, hl218_1, hi218_1⟩ := at_T100 HR0_0.out (rd ((rd_T100 l0_0 x3_1).f1) x5_2) p218 q218; (try rw [← Nbq26.out] at hx218_0); obtain rfl : ad214 = ad218 := (by injection e218); replace hx218_0 := (HB.out.cell (World.block_lt_of_cell? w _ hx218_0)).trans hx218_0; replace hx218_1 := (HB.out.cell (World.block_lt_of_cell? w _ hx218_1)).trans hx218_1; have HR218_1 := Aside0.mk hi218_1; have HC218_1 := Aside0.mk hl218_1; clear hi218_1 hl218_1; replace p218 := eq_true p218; replace q218 := eq_true q218))
                                  go_roundg k2
                                  case measure => have := HK1.out; have := HK2.out; omega
                                  case rel => exact ⟨(wrap64 (x5_2 + 1)), (by first | rfl | (simp; done) | (simp [*]; done)), H', ⟨by have := HK1.out; have := HK2.out; omega⟩, ⟨by (with_reducible repeat (first | refine blk_drewN ?_ _ | refine blk_drew ?_ | refine blk_alloc ?_ _)); exact BK213.out⟩, ⟨by (with_reducible repeat (first | refine blk_drewN ?_ _ | refine blk_drew ?_ | refine blk_alloc ?_ _)); exact BK215.out⟩, ⟨by repeat (first | (with_reducible first | exact HB.out | apply below_alloc | apply pw_below_drewN | apply below_drew1 | refine below_set ?_ GE213.out | refine below_set ?_ GE215.out) | exact HB.out)⟩⟩
                                · replace c27 := Bool.eq_false_iff.mpr c27
                                  subst c27
                                  have H1 : (some false) = some r := by rw [if_neg (show ¬ (false = true) by decide)] at H; exact H
                                  clear H
                                  have H := H1
                                  clear H1
                                  obtain rfl := Option.some.inj H
                                  have hnb31 := NB215_213.out
                                  have hnc31 := NB213_215.out
                                  have hcz32_0 : wr.cell? ⟨gb215, 0, none⟩ = some (.bool ((rd_T100 l0_0 x3_1).f0)) := (blk_cell BK215.out 0).trans rfl
                                  have hcz32_1 : wr.cell? ⟨gb215, 1, none⟩ = some (.slice A214_1 ((rd_T100 l0_0 x3_1).f1).length c214_1) := (blk_cell BK215.out 1).trans rfl
                                  have hfz32_0 := blk_frozen BK215.out 0
                                  have hfz32_1 := blk_frozen BK215.out 1
                                  have p216 : 0 ≤ (x5_2 : Int) := of_decide_eq_true (by first | (with_reducible assumption) | assumption)
                                  have q216 : x5_2 < (((rd_T100 l0_0 x3_1).f1).length : Int) := of_decide_eq_true (by first | (with_reducible assumption) | assumption)
                                  obtain ⟨ad216, e216, hx216_0⟩ := Kd.at_int HR214_1.out x5_2 p216 q216
                                  cases e216
                                  replace hx216_0 := (HB.out.cell (World.block_lt_of_cell? w _ hx216_0)).trans hx216_0
                                  replace p216 := eq_true p216
                                  replace q216 := eq_true q216
                                  go_wp2_with (first | (go_at_call 67; (with_reducible refine (spec_l01In.calls (rd ((rd_T100 l0_0 x3_1).f1) x5_2) 0 (wrap64 (x3_1 - 1)) true _ A22.out).mono ?_); rintro e w' ⟨rfl, ⟨nd, rfl⟩⟩; have hcz33_0 : wr.cell? ⟨gb213, 0, none⟩ = some (.slice (some ad214) l0_0.length c0_0) := (blk_cell BK213.out 0).trans rfl; have hfz33_0 := blk_frozen BK213.out 0; have p218 : 0 ≤ ((rd ((rd_T100 l0_0 x3_1).f1) x5_2) : Int) := of_decide_eq_true (by first | (with_reducible assumption) | assumption); have q218 : (rd ((rd_T100 l0_0 x3_1).f1) x5_2) < (l0_0.length : Int) := of_decide_eq_true (by first | (with_reducible assumption) | assumption); obtain ⟨ad218, A218_1, c218_1, e218, hx218_0, hx218_1, hl218_1, hi218_1⟩ := at_T100 HR0_0.out (rd ((rd_T100 l0_0 x3_1).f1) x5_2) p218 q218; (try rw [← Nbq26.out] at hx218_0); obtain rfl : ad214 = ad218 := (by injection e218); replace hx218_0 := (HB.out.cell (World.block_lt_of_cell? w _ hx218_0)).trans hx218_0; replace hx218_1 := (HB.out.cell (World.block_lt_of_cell? w _ hx218_1)).trans hx218_1; have HR218_1 := Aside0.mk hi218_1; have HC218_1 := Aside0.mk hl218_1; clear hi218_1 hl218_1; replace p218 := eq_true p218; replace q218 := eq_true q218))
                                  go_ret
                                  exact ⟨by first | rfl | (simp [errW_none, errW_some] <;> rfl) | (simp [*, errW_none, errW_some] <;> rfl), by repeat (first | (with_reducible first | exact HB.out | apply below_alloc | apply pw_below_drewN | apply below_drew1 | refine below_set ?_ GE213.out | refine below_set ?_ GE215.out) | exact HB.out)⟩
                              · rw [if_neg c25] at H
                                exact absurd H (by simp)
                            · rw [if_neg c24] at H
                              exact absurd H (by simp)
                          · replace c23 := Bool.eq_false_iff.mpr c23
                            subst c23
                            have H1 : (some false) = some r := by rw [if_neg (show ¬ (false = true) by decide)] at H; exact H
                            clear H
                            have H := H1
                            clear H1
                            obtain rfl := Option.some.inj H
                            have hnb34 := NB215_213.out
                            have hnc34 := NB213_215.out
                            have hcz35_0 : wr.cell? ⟨gb215, 0, none⟩ = some (.bool ((rd_T100 l0_0 x3_1).f0)) := (blk_cell BK215.out 0).trans rfl
                            have hcz35_1 : wr.cell? ⟨gb215, 1, none⟩ = some (.slice A214_1 ((rd_T100 l0_0 x3_1).f1).length c214_1) := (blk_cell BK215.out 1).trans rfl
                            have hfz35_0 := blk_frozen BK215.out 0
                            have hfz35_1 := blk_frozen BK215.out 1
                            have p216 : 0 ≤ (x5_2 : Int) := of_decide_eq_true (by first | (with_reducible assumption) | assumption)
                            have q216 : x5_2 < (((rd_T100 l0_0 x3_1).f1).length : Int) := of_decide_eq_true (by first | (with_reducible assumption) | assumption)
                            obtain ⟨ad216, e216, hx216_0⟩ := Kd.at_int HR214_1.out x5_2 p216 q216
                            cases e216
                            replace hx216_0 := (HB.out.cell (World.block_lt_of_cell? w _ hx216_0)).trans hx216_0
                            replace p216 := eq_true p216
                            replace q216 := eq_true q216
                            go_wp2_with (first | (go_at_call 67; (with_reducible refine (spec_l01In.calls (rd ((rd_T100 l0_0 x3_1).f1) x5_2) 0 (wrap64 (x3_1 - 1)) false _ A22.out).mono ?_); rintro e w' ⟨rfl, ⟨nd, rfl⟩⟩))
                            go_ret
                            exact ⟨by first | rfl | (simp [errW_none, errW_some] <;> rfl) | (simp [*, errW_none, errW_some] <;> rfl), by repeat (first | (with_reducible first | exact HB.out | apply below_alloc | apply pw_below_drewN | apply below_drew1 | refine below_set ?_ GE213.out | refine below_set ?_ GE215.out) | exact HB.out)⟩
                    · rw [if_neg c12] at H
                      exact absurd H (by simp)
                  · rw [if_neg c11] at H
                    exact absurd H (by simp)
                · rw [if_neg c10] at H
                  have c10b0 : decide (x5_2 < 4) = false := decide_eq_false c10
                  clear c10
                  have H' := Aside0.mk H
                  clear H
                  go_wp2
                  go_roundg k2
                  case measure => have := HK1.out; have := HK2.out; omega
                  case rel => exact ⟨(wrap64 (x3_1 + 1)), (by first | rfl | (simp; done) | (simp [*]; done)), H', ⟨by have := HK1.out; have := HK2.out; omega⟩, ⟨by (with_reducible repeat (first | refine blk_drewN ?_ _ | refine blk_drew ?_ | refine blk_alloc ?_ _)); exact BK213.out⟩, ⟨by repeat (first | (with_reducible first | exact HB.out | apply below_alloc | apply pw_below_drewN | apply below_drew1 | refine below_set ?_ GE213.out | refine below_set ?_ GE215.out) | exact HB.out)⟩⟩
          · rw [if_neg c5] at H
            have c5b0 : ((((rd_T100 l0_0 x3_1).f1).length : Int) == 4) = false := beq_eq_false_iff_ne.mpr c5
            have c5b1 : ((((rd_T100 l0_0 x3_1).f1).length : Int) != 4) = true := bne_iff_ne.mpr c5
            obtain rfl := Option.some.inj H
            have hcz36_0 : wr.cell? ⟨gb213, 0, none⟩ = some (.slice A0_0 l0_0.length c0_0) := (blk_cell BK213.out 0).trans rfl
            have hfz36_0 := blk_frozen BK213.out 0
            have p214 : 0 ≤ (x3_1 : Int) := of_decide_eq_true (by first | (with_reducible assumption) | assumption)
            have q214 : x3_1 < (l0_0.length : Int) := of_decide_eq_true (by first | (with_reducible assumption) | assumption)
            obtain ⟨ad214, A214_1, c214_1, e214, hx214_0, hx214_1, hl214_1, hi214_1⟩ := at_T100 HR0_0.out x3_1 p214 q214
            cases e214
            replace hx214_0 := (HB.out.cell (World.block_lt_of_cell? w _ hx214_0)).trans hx214_0
            replace hx214_1 := (HB.out.cell (World.block_lt_of_cell? w _ hx214_1)).trans hx214_1
            have HR214_1 := Aside0.mk hi214_1
            have HC214_1 := Aside0.mk hl214_1
            clear hi214_1 hl214_1
            replace p214 := eq_true p214
            replace q214 := eq_true q214
            go_wp2_with (first | ((with_reducible refine gate_dst (N := 4) rfl ?_); refine box_event ?hg (N := 4) ?hd (cs := #[.bool false, .slice none 0 0]) (t := 100) ?hr ?_; (case hd => rfl); (case hg => rfl); (case hr => first | (go_simp; done) | (go_simp; rfl)); intro gb215 hg w37 hbox hb; have n0_ := Aside0.mk (blk_below (g := gb213) (o := .cells #[.slice (some ad214) l0_0.length c0_0] 44 (0, 0)) (by (with_reducible repeat (first | refine blk_drewN ?_ _ | refine blk_drew ?_ | refine blk_alloc ?_ _)); exact BK213.out) hb); have n1_ := Aside0.mk (below_step (by repeat (first | (with_reducible first | exact HB.out | apply below_alloc | apply pw_below_drewN | apply below_drew1 | refine below_set ?_ GE213.out) | exact HB.out)) hb); have n2_ := Aside0.mk (hbox); have n3_ := Aside0.mk ((by rw [hg]; exact (below_size (by repeat (first | (with_reducible first | exact HB.out | apply below_alloc | apply pw_below_drewN | apply below_drew1 | refine below_set ?_ GE213.out) | exact HB.out))) : w.heap.size ≤ gb215)); have n4_ := Aside0.mk ((by rw [hg]; exact (below_size (by repeat (first | (with_reducible first | exact HB.out | apply below_alloc | apply pw_below_drewN | apply below_drew1 | refine below_set ?_ GE213.out) | exact HB.out))) : w.heap.size ≤ gb215)); have n5_ := Aside0.mk ((by rw [hg]; exact Nat.ne_of_lt (blk_lt (g := gb213) (o := .cells #[.slice (some ad214) l0_0.length c0_0] 44 (0, 0)) (by (with_reducible repeat (first | refine blk_drewN ?_ _ | refine blk_drew ?_ | refine blk_alloc ?_ _)); exact BK213.out)) : gb213 ≠ gb215)); have n6_ := Aside0.mk ((by rw [hg]; exact Nat.ne_of_gt (blk_lt (g := gb213) (o := .cells #[.slice (some ad214) l0_0.length c0_0] 44 (0, 0)) (by (with_reducible repeat (first | refine blk_drewN ?_ _ | refine blk_drew ?_ | refine blk_alloc ?_ _)); exact BK213.out)) : gb215 ≠ gb213)); clear BK213; clear HB; have BK213 := n0_; have HB := n1_; have BK215 := n2_; have GW215 := n3_; have GE215 := n4_; have NB213_215 := n5_; have NB215_213 := n6_; clear n0_ n1_ n2_ n3_ n4_ n5_ n6_; clear hb hbox hg; have hnb38 := NB215_213.out; have hnc38 := NB213_215.out; have hcz39_0 : w37.cell? ⟨gb215, 0, none⟩ = some (.bool false) := (blk_cell BK215.out 0).trans rfl; have hcz39_1 : w37.cell? ⟨gb215, 1, none⟩ = some (.slice none 0 0) := (blk_cell BK215.out 1).trans rfl; have hfz39_0 := blk_frozen BK215.out 0; have hfz39_1 := blk_frozen BK215.out 1))
            go_ret
            exact ⟨by first | rfl | (simp [errW_none, errW_some] <;> rfl) | (simp [*, errW_none, errW_some] <;> rfl), by repeat (first | (with_reducible first | exact HB.out | apply below_alloc | apply pw_below_drewN | apply below_drew1 | refine below_set ?_ GE213.out | refine below_set ?_ GE215.out) | exact HB.out)⟩
        · rw [if_neg c4] at H
          exact absurd H (by simp)
      · rw [if_neg c3] at H
        have c3b0 : decide (x3_1 < (l0_0.length : Int)) = false := decide_eq_false c3
        clear c3
        obtain rfl := Option.some.inj H
        have hcz40_0 : wr.cell? ⟨gb213, 0, none⟩ = some (.slice A0_0 l0_0.length c0_0) := (blk_cell BK213.out 0).trans rfl
        have hfz40_0 := blk_frozen BK213.out 0
        go_wp2
        go_ret
        exact ⟨by first | rfl | (simp [errW_none, errW_some] <;> rfl) | (simp [*, errW_none, errW_some] <;> rfl), by repeat (first | (with_reducible first | exact HB.out | apply below_alloc | apply pw_below_drewN | apply below_drew1 | refine below_set ?_ GE213.out) | exact HB.out)⟩

end Go.Proofs.Ytjlblibfbokjoaa.PA
