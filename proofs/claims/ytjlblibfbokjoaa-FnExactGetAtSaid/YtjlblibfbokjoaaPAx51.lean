/- Functions of the translation as plain Lean functions, and for each that its call comes to just what its Lean function answers; its conditions stand in each theorem. Written by a program of this session. -/
import Derived.Test.YtjlblibfbokjoaaPAx0
namespace Go.Proofs.Ytjlblibfbokjoaa.PA
open Go.RowKit Go.Proofs.YtjlblibfbokjoaaW.PrintWords Go.Proofs.YtjlblibfbokjoaaW.PrintLast Go.Proofs.YtjlblibfbokjoaaW.PrintMore
attribute [local go_sem] max2_int min2_int max_two min_two max_three min_three max_four min_four   -- for this text's walks alone
set_option linter.unusedVariables false
set_option linter.unusedSimpArgs false

/-! ### spec_l11Get: function 80 -/
def spec_l11Get.f (l0_0 : List (S100)) (a1 : Int) (a2 : Int) : Option (Int) := if a1 < 0 then (some 0) else (if 0 ≤ a1 then (if a1 < (l0_0.length : Int) then (if 0 ≤ (wrap64 (Int.tdiv a2 4)) then (if (wrap64 (Int.tdiv a2 4)) < (((rd_T100 l0_0 a1).f1).length : Int) then (if (rd ((rd_T100 l0_0 a1).f1) (wrap64 (Int.tdiv a2 4))) < 0 then (some 0) else (if 0 ≤ (rd ((rd_T100 l0_0 a1).f1) (wrap64 (Int.tdiv a2 4))) then (if (rd ((rd_T100 l0_0 a1).f1) (wrap64 (Int.tdiv a2 4))) < (l0_0.length : Int) then (if 0 ≤ (Int.tmod a2 4) then (if (Int.tmod a2 4) < (((rd_T100 l0_0 (rd ((rd_T100 l0_0 a1).f1) (wrap64 (Int.tdiv a2 4)))).f1).length : Int) then (some (rd ((rd_T100 l0_0 (rd ((rd_T100 l0_0 a1).f1) (wrap64 (Int.tdiv a2 4)))).f1) (Int.tmod a2 4))) else (none)) else (none)) else (none)) else (none))) else (none)) else (none)) else (none)) else (none))
set_option maxHeartbeats 8000000 in
set_option maxRecDepth 100000 in
theorem spec_l11Get.calls (A0_0 : Option Addr) (c0_0 : Nat) (l0_0 : List (S100)) (a1 : Int) (a2 : Int) (r : Int) (w : World) (hr0_0 : Kd.C k100 w A0_0 l0_0.length l0_0) (hc0_0 : l0_0.length ≤ c0_0) (h : spec_l11Get.f l0_0 a1 a2 = some r) :
    Calls Try.prog 80 #[.agg #[.slice A0_0 l0_0.length c0_0], .int .i64 a1, .int .i64 a2] w fun e w' => e = .returned (.int .i64 r) ∧ Below w.heap.size w w' := by
  have hu44 := Try.underlying44
  have HR0_0 := Aside0.mk hr0_0
  have HC0_0 := Aside0.mk hc0_0
  clear hr0_0 hc0_0
  have HB := Aside0.mk (Below.refl w.heap.size w)
  have H : (if a1 < 0 then (some 0) else (if 0 ≤ a1 then (if a1 < (l0_0.length : Int) then (if 0 ≤ (wrap64 (Int.tdiv a2 4)) then (if (wrap64 (Int.tdiv a2 4)) < (((rd_T100 l0_0 a1).f1).length : Int) then (if (rd ((rd_T100 l0_0 a1).f1) (wrap64 (Int.tdiv a2 4))) < 0 then (some 0) else (if 0 ≤ (rd ((rd_T100 l0_0 a1).f1) (wrap64 (Int.tdiv a2 4))) then (if (rd ((rd_T100 l0_0 a1).f1) (wrap64 (Int.tdiv a2 4))) < (l0_0.length : Int) then (if 0 ≤ (Int.tmod a2 4) then (if (Int.tmod a2 4) < (((rd_T100 l0_0 (rd ((rd_T100 l0_0 a1).f1) (wrap64 (Int.tdiv a2 4)))).f1).length : Int) then (some (rd ((rd_T100 l0_0 (rd ((rd_T100 l0_0 a1).f1) (wrap64 (Int.tdiv a2 4)))).f1) (Int.tmod a2 4))) else (none)) else (none)) else (none)) else (none))) else (none)) else (none)) else (none)) else (none))) = some r := h
  clear h
  by_cases c4 : a1 < 0
  · rw [if_pos c4] at H
    have c4b0 : decide (a1 < 0) = true := decide_eq_true c4
    clear c4
    obtain rfl := Option.some.inj H
    go_enter Try.func80, Try.ntmps80
    go_wp2_with (first | ((with_reducible refine gate_dst (N := 3) rfl ?_); refine box_event ?hg (N := 3) ?hd (cs := #[.slice A0_0 l0_0.length c0_0]) (t := 44) ?hr ?_; (case hd => rfl); (case hg => rfl); (case hr => first | (go_simp; done) | (go_simp; rfl)); intro gb326 hg w5 hbox hb; have n0_ := Aside0.mk (below_step (by repeat (first | (with_reducible first | exact HB.out | apply below_alloc | apply pw_below_drewN | apply below_drew1) | exact HB.out)) hb); have n1_ := Aside0.mk (hbox); have n2_ := Aside0.mk ((by rw [hg]; exact (below_size (by repeat (first | (with_reducible first | exact HB.out | apply below_alloc | apply pw_below_drewN | apply below_drew1) | exact HB.out))) : w.heap.size ≤ gb326)); have n3_ := Aside0.mk ((by rw [hg]; exact (below_size (by repeat (first | (with_reducible first | exact HB.out | apply below_alloc | apply pw_below_drewN | apply below_drew1) | exact HB.out))) : w.heap.size ≤ gb326)); clear HB; have HB := n0_; have BK326 := n1_; have GW326 := n2_; have GE326 := n3_; clear n0_ n1_ n2_ n3_; clear hb hbox hg))
    go_ret
    exact ⟨by first | rfl | (simp [errW_none, errW_some] <;> rfl) | (simp [*, errW_none, errW_some] <;> rfl), by repeat (first | (with_reducible first | exact HB.out | apply below_alloc | apply pw_below_drewN | apply below_drew1 | refine below_set ?_ GE326.out) | exact HB.out)⟩
  · rw [if_neg c4] at H
    have c4b0 : decide (a1 < 0) = false := decide_eq_false c4
    clear c4
    by_cases c6 : 0 ≤ a1
    · rw [if_pos c6] at H
      have c6b0 : decide (0 ≤ a1) = true := decide_eq_true c6
      clear c6
      by_cases c7 : a1 < (l0_0.length : Int)
      · rw [if_pos c7] at H
        have c7b0 : decide (a1 < (l0_0.length : Int)) = true := decide_eq_true c7
        clear c7
        obtain ⟨ji8, hji8⟩ : ∃ j_ : Int, (wrap64 (Int.tdiv a2 4)) = j_ := ⟨_, rfl⟩
        replace H : (if 0 ≤ (ji8) then (if (ji8) < (((rd_T100 l0_0 a1).f1).length : Int) then (if (rd ((rd_T100 l0_0 a1).f1) (ji8)) < 0 then (some 0) else (if 0 ≤ (rd ((rd_T100 l0_0 a1).f1) (ji8)) then (if (rd ((rd_T100 l0_0 a1).f1) (ji8)) < (l0_0.length : Int) then (if 0 ≤ (Int.tmod a2 4) then (if (Int.tmod a2 4) < (((rd_T100 l0_0 (rd ((rd_T100 l0_0 a1).f1) (ji8))).f1).length : Int) then (some (rd ((rd_T100 l0_0 (rd ((rd_T100 l0_0 a1).f1) (ji8))).f1) (Int.tmod a2 4))) else (none)) else (none)) else (none)) else (none))) else (none)) else (none)) = some r := by first | (rw [hji8] at H; exact H) | (simp only [hji8] at H ⊢; exact H)
        have hji8w : (IntKind.i64.wrap (Int.tdiv a2 4)) = ji8 := (i64_w _).trans hji8
        by_cases c9 : 0 ≤ (ji8)
        · rw [if_pos c9] at H
          have c9b0 : decide (0 ≤ (ji8)) = true := decide_eq_true c9
          clear c9
          by_cases c10 : (ji8) < (((rd_T100 l0_0 a1).f1).length : Int)
          · rw [if_pos c10] at H
            have c10b0 : decide ((ji8) < (((rd_T100 l0_0 a1).f1).length : Int)) = true := decide_eq_true c10
            clear c10
            by_cases c11 : (rd ((rd_T100 l0_0 a1).f1) (ji8)) < 0
            · rw [if_pos c11] at H
              have c11b0 : decide ((rd ((rd_T100 l0_0 a1).f1) (ji8)) < 0) = true := decide_eq_true c11
              clear c11
              obtain rfl := Option.some.inj H
              go_enter Try.func80, Try.ntmps80
              go_wp2_with (first | ((with_reducible refine gate_dst (N := 3) rfl ?_); refine box_event ?hg (N := 3) ?hd (cs := #[.slice A0_0 l0_0.length c0_0]) (t := 44) ?hr ?_; (case hd => rfl); (case hg => rfl); (case hr => first | (go_simp; done) | (go_simp; rfl)); intro gb326 hg w12 hbox hb; have n0_ := Aside0.mk (below_step (by repeat (first | (with_reducible first | exact HB.out | apply below_alloc | apply pw_below_drewN | apply below_drew1) | exact HB.out)) hb); have n1_ := Aside0.mk (hbox); have n2_ := Aside0.mk ((by rw [hg]; exact (below_size (by repeat (first | (with_reducible first | exact HB.out | apply below_alloc | apply pw_below_drewN | apply below_drew1) | exact HB.out))) : w.heap.size ≤ gb326)); have n3_ := Aside0.mk ((by rw [hg]; exact (below_size (by repeat (first | (with_reducible first | exact HB.out | apply below_alloc | apply pw_below_drewN | apply below_drew1) | exact HB.out))) : w.heap.size ≤ gb326)); clear HB; have HB := n0_; have BK326 := n1_; have GW326 := n2_; have GE326 := n3_; clear n0_ n1_ n2_ n3_; clear hb hbox hg; have hcz13_0 : w12.cell? ⟨gb326, 0, none⟩ = some (.slice A0_0 l0_0.length c0_0) := (blk_cell BK326.out 0).trans rfl; have hfz13_0 := blk_frozen BK326.out 0; have p327 : 0 ≤ (a1 : Int) := of_decide_eq_true (by first | (with_reducible assumption) | assumption); have q327 : a1 < (l0_0.length : Int) := of_decide_eq_true (by first | (with_reducible assumption) | assumption); obtain ⟨ad327, A327_1, c327_1, e327, hx327_0, hx327_1, hl327_1, hi327_1⟩ := at_T100 HR0_0.out a1 p327 q327; cases e327; replace hx327_0 := (HB.out.cell (World.block_lt_of_cell? w _ hx327_0)).trans hx327_0; replace hx327_1 := (HB.out.cell (World.block_lt_of_cell? w _ hx327_1)).trans hx327_1; have HR327_1 := Aside0.mk hi327_1; have HC327_1 := Aside0.mk hl327_1; clear hi327_1 hl327_1; replace p327 := eq_true p327; replace q327 := eq_true q327; have p328 : 0 ≤ ((ji8) : Int) := of_decide_eq_true (by first | (with_reducible assumption) | assumption); have q328 : (ji8) < (((rd_T100 l0_0 a1).f1).length : Int) := of_decide_eq_true (by first | (with_reducible assumption) | assumption); obtain ⟨ad328, e328, hx328_0⟩ := Kd.at_int HR327_1.out (ji8) p328 q328; cases e328; replace hx328_0 := (HB.out.cell (World.block_lt_of_cell? w _ hx328_0)).trans hx328_0; replace p328 := eq_true p328; replace q328 := eq_true q328))
              go_ret
              exact ⟨by first | rfl | (simp [errW_none, errW_some] <;> rfl) | (simp only [← hji8]; first | rfl | (simp [errW_none, errW_some] <;> rfl)) | (simp [*, errW_none, errW_some] <;> rfl), by repeat (first | (with_reducible first | exact HB.out | apply below_alloc | apply pw_below_drewN | apply below_drew1 | refine below_set ?_ GE326.out) | exact HB.out)⟩
            · rw [if_neg c11] at H
              have c11b0 : decide ((rd ((rd_T100 l0_0 a1).f1) (ji8)) < 0) = false := decide_eq_false c11
              clear c11
              by_cases c14 : 0 ≤ (rd ((rd_T100 l0_0 a1).f1) (ji8))
              · rw [if_pos c14] at H
                have c14b0 : decide (0 ≤ (rd ((rd_T100 l0_0 a1).f1) (ji8))) = true := decide_eq_true c14
                clear c14
                by_cases c15 : (rd ((rd_T100 l0_0 a1).f1) (ji8)) < (l0_0.length : Int)
                · rw [if_pos c15] at H
                  have c15b0 : decide ((rd ((rd_T100 l0_0 a1).f1) (ji8)) < (l0_0.length : Int)) = true := decide_eq_true c15
                  clear c15
                  obtain ⟨ji16, hji16⟩ : ∃ j_ : Int, (Int.tmod a2 4) = j_ := ⟨_, rfl⟩
                  replace H : (if 0 ≤ (ji16) then (if (ji16) < (((rd_T100 l0_0 (rd ((rd_T100 l0_0 a1).f1) (ji8))).f1).length : Int) then (some (rd ((rd_T100 l0_0 (rd ((rd_T100 l0_0 a1).f1) (ji8))).f1) (ji16))) else (none)) else (none)) = some r := by first | (rw [hji16] at H; exact H) | (simp only [hji16] at H ⊢; exact H)
                  by_cases c17 : 0 ≤ (ji16)
                  · rw [if_pos c17] at H
                    have c17b0 : decide (0 ≤ (ji16)) = true := decide_eq_true c17
                    clear c17
                    by_cases c18 : (ji16) < (((rd_T100 l0_0 (rd ((rd_T100 l0_0 a1).f1) (ji8))).f1).length : Int)
                    · rw [if_pos c18] at H
                      have c18b0 : decide ((ji16) < (((rd_T100 l0_0 (rd ((rd_T100 l0_0 a1).f1) (ji8))).f1).length : Int)) = true := decide_eq_true c18
                      clear c18
                      obtain rfl := Option.some.inj H
                      go_enter Try.func80, Try.ntmps80
                      go_wp2_with (first | ((with_reducible refine gate_dst (N := 3) rfl ?_); refine box_event ?hg (N := 3) ?hd (cs := #[.slice A0_0 l0_0.length c0_0]) (t := 44) ?hr ?_; (case hd => rfl); (case hg => rfl); (case hr => first | (go_simp; done) | (go_simp; rfl)); intro gb326 hg w19 hbox hb; have n0_ := Aside0.mk (below_step (by repeat (first | (with_reducible first | exact HB.out | apply below_alloc | apply pw_below_drewN | apply below_drew1) | exact HB.out)) hb); have n1_ := Aside0.mk (hbox); have n2_ := Aside0.mk ((by rw [hg]; exact (below_size (by repeat (first | (with_reducible first | exact HB.out | apply below_alloc | apply pw_below_drewN | apply below_drew1) | exact HB.out))) : w.heap.size ≤ gb326)); have n3_ := Aside0.mk ((by rw [hg]; exact (below_size (by repeat (first | (with_reducible first | exact HB.out | apply below_alloc | apply pw_below_drewN | apply below_drew1) | exact HB.out))) : w.heap.size ≤ gb326)); clear HB; have HB := n0_; have BK326 := n1_; have GW326 := n2_; have GE326 := n3_; clear n0_ n1_ n2_ n3_; clear hb hbox hg; have hcz20_0 : w19.cell? ⟨gb326, 0, none⟩ = some (.slice A0_0 l0_0.length c0_0) := (blk_cell BK326.out 0).trans rfl; have hfz20_0 := blk_frozen BK326.out 0; have p327 : 0 ≤ (a1 : Int) := of_decide_eq_true (by first | (with_reducible assumption) | assumption); have q327 : a1 < (l0_0.length : Int) := of_decide_eq_true (by first | (with_reducible assumption) | assumption); obtain ⟨ad327, A327_1, c327_1, e327, hx327_0, hx327_1, hl327_1, hi327_1⟩ := at_T100 HR0_0.out a1 p327 q327; cases e327; replace hx327_0 := (HB.out.cell (World.block_lt_of_cell? w _ hx327_0)).trans hx327_0; replace hx327_1 := (HB.out.cell (World.block_lt_of_cell? w _ hx327_1)).trans hx327_1; have HR327_1 := Aside0.mk hi327_1; have HC327_1 := Aside0.mk hl327_1; clear hi327_1 hl327_1; replace p327 := eq_true p327; replace q327 := eq_true q327; have p328 : 0 ≤ ((ji8) : Int) := of_decide_eq_true (by first | (with_reducible assumption) | assumption); have q328 : (ji8) < (((rd_T100 l0_0 a1).f1).length : Int) := of_decide_eq_true (by first | (with_reducible assumption) | assumption); obtain ⟨ad328, e328, hx328_0⟩ := Kd.at_int HR327_1.out (ji8) p328 q328; cases e328; replace hx328_0 := (HB.out.cell (World.block_lt_of_cell? w _ hx328_0)).trans hx328_0; replace p328 := eq_true p328; replace q328 := eq_true q328; have p329 : 0 ≤ ((rd ((rd_T100 l0_0 a1).f1) (ji8)) : Int) := of_decide_eq_true (by first | (with_reducible assumption) | assumption); have q329 : (rd ((rd_T100 l0_0 a1).f1) (ji8)) < (l0_0.length : Int) := of_decide_eq_true (by first | (with_reducible assumption) | assumption); obtain ⟨ad329, A329_1, c329_1, e329, hx329_0, hx329_1, hl329_1, hi329_1⟩ := at_T100 HR0_0.out (rd ((rd_T100 l0_0 a1).f1) (ji8)) p329 q329; obtain rfl : ad327 = ad329 := (by injection e329); replace hx329_0 := (HB.out.cell (World.block_lt_of_cell? w _ hx329_0)).trans hx329_0; replace hx329_1 := (HB.out.cell (World.block_lt_of_cell? w _ hx329_1)).trans hx329_1; have HR329_1 := Aside0.mk hi329_1; have HC329_1 := Aside0.mk hl329_1; clear hi329_1 hl329_1; replace p329 := eq_true p329; replace q329 := eq_true q329; have p330 : 0 ≤ ((ji16) : Int) := of_decide_eq_true (by first | (with_reducible assumption) | assumption); have q330 : (ji16) < (((rd_T100 l0_0 (rd ((rd_T100 l0_0 a1).f1) (ji8))).f1).length : Int) := of_decide_eq_true (by first | (with_reducible assumption) | assumption); obtain ⟨ad330, e330, hx330_0⟩ := Kd.at_int HR329_1.out (ji16) p330 q330; cases e330; replace hx330_0 := (HB.out.cell (World.block_lt_of_cell? w _ hx330_0)).trans hx330_0; replace p330 := eq_true p330; replace q330 := eq_true q330))
                      go_ret
                      exact ⟨by first | rfl | (simp [errW_none, errW_some] <;> rfl) | (simp only [← hji8, ← hji16]; first | rfl | (simp [errW_none, errW_some] <;> rfl)) | (simp [*, errW_none, errW_some] <;> rfl), by repeat (first | (with_reducible first | exact HB.out | apply below_alloc | apply pw_below_drewN | apply below_drew1 | refine below_set ?_ GE326.out) | exact HB.out)⟩
                    · rw [if_neg c18] at H
                      exact absurd H (by simp)
                  · rw [if_neg c17] at H
                    exact absurd H (by simp)
                · rw [if_neg c15] at H
                  exact absurd H (by simp)
              · rw [if_neg c14] at H
                exact absurd H (by simp)
          · rw [if_neg c10] at H
            exact absurd H (by simp)
        · rw [if_neg c9] at H
          exact absurd H (by simp)
      · rw [if_neg c7] at H
        exact absurd H (by simp)
    · rw [if_neg c6] at H
      exact absurd H (by simp)

end Go.Proofs.Ytjlblibfbokjoaa.PA
