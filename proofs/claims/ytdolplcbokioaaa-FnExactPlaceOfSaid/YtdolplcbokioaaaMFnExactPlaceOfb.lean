/- FnExactPlaceOf: functions of the translation as Lean functions with what their calls come to, plain lemmas on them, and, at the end, the row. Parts of one proof, merged by a program of this session; each part's own sentence stands at its head. -/
import Derived.Test.YtdolplcbokioaaaMFnExactPlaceOfa
/- Functions of the translation as plain Lean functions, and for each that its call comes to just what its Lean function answers; its conditions stand in each theorem. Written by a program of this session. -/
namespace Go.Proofs.Ytdolplcbokioaaa.PB
open Go.RowKit Go.Proofs.YtdolplcbokioaaaW.PrintWords Go.Proofs.YtdolplcbokioaaaW.PrintLast Go.Proofs.YtdolplcbokioaaaW.PrintMore
attribute [local go_sem] max2_int min2_int max_two min_two max_three min_three max_four min_four   -- for this text's walks alone
set_option linter.unusedVariables false
set_option linter.unusedSimpArgs false

/-! ### impl_PlaceOf: function 37 -/
def impl_PlaceOf.l0 : Nat → Int → List Int → Int → Int → List (S71) → Option (Int × Int × Bool)
  | 0, _, _, _, _, _ => none
  | k + 1, x6, x24, x25, x26, x1051000 => if x26 < x25 then (if 0 ≤ x26 then (if x26 < (x24.length : Int) then (if x6 < 0 then (impl_PlaceOf.l0 k (rd x24 x26) x24 x25 (wrap64 (x26 + 1)) x1051000) else (if 0 ≤ (rd x24 x26) then (if (rd x24 x26) < (x1051000.length : Int) then (if 0 ≤ x6 then (if x6 < (x1051000.length : Int) then (if ((rd_T71 x1051000 (rd x24 x26)).f1) < ((rd_T71 x1051000 x6).f1) then (impl_PlaceOf.l0 k (rd x24 x26) x24 x25 (wrap64 (x26 + 1)) x1051000) else (impl_PlaceOf.l0 k x6 x24 x25 (wrap64 (x26 + 1)) x1051000)) else (none)) else (none)) else (none)) else (none))) else (none)) else (none)) else (if x6 < 0 then (some (0, 0, false)) else (some (x6, 0, true)))
def impl_PlaceOf.f (k : Nat) (l0_0 : List (S71)) : Option (Int × Int × Bool) := (impl_FlashOk.f k l0_0).bind fun t1051 => (if t1051 = true then ((impl_OpenBlock.f k l0_0).bind fun t1052 => (if t1052 ≥ 0 then (if 0 ≤ t1052 then (if t1052 < (l0_0.length : Int) then ((impl_NextBlank.f k ((rd_T71 l0_0 t1052).f0) ((rd_T71 l0_0 t1052).f1) ((rd_T71 l0_0 t1052).f2)).bind fun t1054 => (some (t1052, t1054, true))) else (none)) else (none)) else ((impl_FreeBlocks.f k l0_0).bind fun t1055 => (impl_PlaceOf.l0 k (-1) t1055 (t1055.length : Int) 0 l0_0)))) else (some (0, 0, false)))
theorem impl_PlaceOf.mono_l : ∀ k, (∀ y0 y1 y2 y3 y4, LeO (impl_PlaceOf.l0 k y0 y1 y2 y3 y4) (impl_PlaceOf.l0 (k + 1) y0 y1 y2 y3 y4))
  | 0 => fun _ _ _ _ _ r h => by simp [impl_PlaceOf.l0] at h
  | k + 1 => by
    have ih0 := impl_PlaceOf.mono_l k
    · intro y0 y1 y2 y3 y4
      unfold impl_PlaceOf.l0
      repeat' first
      | (with_reducible exact ih0 _ _ _ _ _)
      | (with_reducible exact impl_FlashOk.mono _ _)
      | (with_reducible exact impl_FreeBlocks.mono _ _)
      | (with_reducible exact impl_NextBlank.mono _ _ _ _)
      | (with_reducible exact impl_OpenBlock.mono _ _)
      | (with_reducible exact LeO.refl _)
      | (with_reducible exact LeO.none _)
      | (with_reducible refine LeO.ite ?_ ?_)
      | (with_reducible refine LeO.bind ?_ (fun _ => ?_))
      | exact ih0 _ _ _ _ _
      | exact impl_FlashOk.mono _ _
      | exact impl_FreeBlocks.mono _ _
      | exact impl_NextBlank.mono _ _ _ _
      | exact impl_OpenBlock.mono _ _
      | exact LeO.none _
      | refine LeO.ite ?_ ?_
      | refine LeO.bind ?_ (fun _ => ?_)
theorem impl_PlaceOf.mono : ∀ a0 k, LeO (impl_PlaceOf.f k a0) (impl_PlaceOf.f (k + 1) a0) := by
  intro a0 k
  have ih0 := impl_PlaceOf.mono_l k
  unfold impl_PlaceOf.f
  repeat' first
      | (with_reducible exact ih0 _ _ _ _ _)
      | (with_reducible exact impl_FlashOk.mono _ _)
      | (with_reducible exact impl_FreeBlocks.mono _ _)
      | (with_reducible exact impl_NextBlank.mono _ _ _ _)
      | (with_reducible exact impl_OpenBlock.mono _ _)
      | (with_reducible exact LeO.refl _)
      | (with_reducible exact LeO.none _)
      | (with_reducible refine LeO.ite ?_ ?_)
      | (with_reducible refine LeO.bind ?_ (fun _ => ?_))
      | exact ih0 _ _ _ _ _
      | exact impl_FlashOk.mono _ _
      | exact impl_FreeBlocks.mono _ _
      | exact impl_NextBlank.mono _ _ _ _
      | exact impl_OpenBlock.mono _ _
      | exact LeO.none _
      | refine LeO.ite ?_ ?_
      | refine LeO.bind ?_ (fun _ => ?_)
set_option maxHeartbeats 8000000 in
set_option maxRecDepth 100000 in
theorem impl_PlaceOf.calls (k : Nat) (A0_0 : Option Addr) (c0_0 : Nat) (l0_0 : List (S71)) (r1 : Int) (r2 : Int) (r3 : Bool) (w : World) (hr0_0 : Kd.C k71 w A0_0 l0_0.length l0_0) (hc0_0 : l0_0.length ≤ c0_0) (h : impl_PlaceOf.f k l0_0 = some (r1, r2, r3)) :
    Calls Try.prog 37 #[.agg #[.slice A0_0 l0_0.length c0_0]] w fun e w' => e = .returned (.tuple #[.int .i64 r1, .int .i64 r2, .bool r3]) ∧ Below w.heap.size w w' := by
  have hu63 := Try.underlying63
  have hu71 := Try.underlying71
  have HR0_0 := Aside0.mk hr0_0
  have HC0_0 := Aside0.mk hc0_0
  clear hr0_0 hc0_0
  have HB := Aside0.mk (Below.refl w.heap.size w)
  have H : ((impl_FlashOk.f k l0_0).bind fun t1051 => (if t1051 = true then ((impl_OpenBlock.f k l0_0).bind fun t1052 => (if t1052 ≥ 0 then (if 0 ≤ t1052 then (if t1052 < (l0_0.length : Int) then ((impl_NextBlank.f k ((rd_T71 l0_0 t1052).f0) ((rd_T71 l0_0 t1052).f1) ((rd_T71 l0_0 t1052).f2)).bind fun t1054 => (some (t1052, t1054, true))) else (none)) else (none)) else ((impl_FreeBlocks.f k l0_0).bind fun t1055 => (impl_PlaceOf.l0 k (-1) t1055 (t1055.length : Int) 0 l0_0)))) else (some (0, 0, false)))) = some (r1, r2, r3) := h
  clear h
  replace H := Option.bind_eq_some_iff.mp H
  obtain ⟨t1051, A20, H⟩ := H
  replace H : (if t1051 = true then ((impl_OpenBlock.f k l0_0).bind fun t1052 => (if t1052 ≥ 0 then (if 0 ≤ t1052 then (if t1052 < (l0_0.length : Int) then ((impl_NextBlank.f k ((rd_T71 l0_0 t1052).f0) ((rd_T71 l0_0 t1052).f1) ((rd_T71 l0_0 t1052).f2)).bind fun t1054 => (some (t1052, t1054, true))) else (none)) else (none)) else ((impl_FreeBlocks.f k l0_0).bind fun t1055 => (impl_PlaceOf.l0 k (-1) t1055 (t1055.length : Int) 0 l0_0)))) else (some (0, 0, false))) = some (r1, r2, r3) := H
  have A2 := Aside0.mk A20
  clear A20
  by_cases c3 : t1051 = true
  · subst c3
    have H1 : ((impl_OpenBlock.f k l0_0).bind fun t1052 => (if t1052 ≥ 0 then (if 0 ≤ t1052 then (if t1052 < (l0_0.length : Int) then ((impl_NextBlank.f k ((rd_T71 l0_0 t1052).f0) ((rd_T71 l0_0 t1052).f1) ((rd_T71 l0_0 t1052).f2)).bind fun t1054 => (some (t1052, t1054, true))) else (none)) else (none)) else ((impl_FreeBlocks.f k l0_0).bind fun t1055 => (impl_PlaceOf.l0 k (-1) t1055 (t1055.length : Int) 0 l0_0)))) = some (r1, r2, r3) := by rw [if_pos rfl] at H; exact H
    clear H
    have H := H1
    clear H1
    replace H := Option.bind_eq_some_iff.mp H
    obtain ⟨t1052, A40, H⟩ := H
    replace H : (if t1052 ≥ 0 then (if 0 ≤ t1052 then (if t1052 < (l0_0.length : Int) then ((impl_NextBlank.f k ((rd_T71 l0_0 t1052).f0) ((rd_T71 l0_0 t1052).f1) ((rd_T71 l0_0 t1052).f2)).bind fun t1054 => (some (t1052, t1054, true))) else (none)) else (none)) else ((impl_FreeBlocks.f k l0_0).bind fun t1055 => (impl_PlaceOf.l0 k (-1) t1055 (t1055.length : Int) 0 l0_0))) = some (r1, r2, r3) := H
    have A4 := Aside0.mk A40
    clear A40
    by_cases c5 : t1052 ≥ 0
    · rw [if_pos c5] at H
      have c5b0 : decide (0 ≤ t1052) = true := decide_eq_true c5
      clear c5
      by_cases c6 : 0 ≤ t1052
      · rw [if_pos c6] at H
        have c6b0 : decide (0 ≤ t1052) = true := decide_eq_true c6
        clear c6
        by_cases c7 : t1052 < (l0_0.length : Int)
        · rw [if_pos c7] at H
          have c7b0 : decide (t1052 < (l0_0.length : Int)) = true := decide_eq_true c7
          clear c7
          replace H := Option.bind_eq_some_iff.mp H
          obtain ⟨t1054, A80, H⟩ := H
          replace H : (some (t1052, t1054, true)) = some (r1, r2, r3) := H
          have A8 := Aside0.mk A80
          clear A80
          simp only [Option.some.injEq, Prod.mk.injEq] at H
          obtain ⟨rfl, rfl, rfl⟩ := H
          go_enter Try.func37, Try.ntmps37
          go_wp2_with (first | ((with_reducible refine gate_dst (N := 1) rfl ?_); refine box_event ?hg (N := 1) ?hd (cs := #[.slice A0_0 l0_0.length c0_0]) (t := 63) ?hr ?_; (case hd => rfl); (case hg => rfl); (case hr => first | (go_simp; done) | (go_simp; rfl)); intro gb1050 hg w9 hbox hb; have n0_ := Aside0.mk (below_step (by repeat (first | (with_reducible first | exact HB.out | apply below_alloc | apply pw_below_drewN | apply below_drew1) | exact HB.out)) hb); have n1_ := Aside0.mk (hbox); have n2_ := Aside0.mk ((by rw [hg]; exact (below_size (by repeat (first | (with_reducible first | exact HB.out | apply below_alloc | apply pw_below_drewN | apply below_drew1) | exact HB.out))) : w.heap.size ≤ gb1050)); have n3_ := Aside0.mk ((by rw [hg]; exact (below_size (by repeat (first | (with_reducible first | exact HB.out | apply below_alloc | apply pw_below_drewN | apply below_drew1) | exact HB.out))) : w.heap.size ≤ gb1050)); clear HB; have HB := n0_; have BK1050 := n1_; have GW1050 := n2_; have GE1050 := n3_; clear n0_ n1_ n2_ n3_; clear hb hbox hg; have hcz10_0 : w9.cell? ⟨gb1050, 0, none⟩ = some (.slice A0_0 l0_0.length c0_0) := (blk_cell BK1050.out 0).trans rfl; have hfz10_0 := blk_frozen BK1050.out 0) | (go_at_call 106; (with_reducible refine (impl_FlashOk.calls k _ _ l0_0 true _ ?side1 ?side2 A2.out).mono ?_); (case side1 => repeat (first | exact (Kd.C_below HR0_0.out HB.out) | (with_reducible refine Kd.C_alloc ?_ _) | (with_reducible refine Kd.C_drewN ?_ _) | (with_reducible refine Kd.C_drew ?_))); (case side2 => exact HC0_0.out); rintro e w11 ⟨rfl, hb⟩; have n0_ := Aside0.mk (blk_below (g := gb1050) (o := .cells #[.slice A0_0 l0_0.length c0_0] 63 (0, 0)) (by (with_reducible repeat (first | refine blk_drewN ?_ _ | refine blk_drew ?_ | refine blk_alloc ?_ _)); exact BK1050.out) hb); have n1_ := Aside0.mk (below_step (by repeat (first | (with_reducible first | exact HB.out | apply below_alloc | apply pw_below_drewN | apply below_drew1 | refine below_set ?_ GE1050.out) | exact HB.out)) hb); clear BK1050; clear HB; have BK1050 := n0_; have HB := n1_; clear n0_ n1_; (try clear hb); (try clear hb2); (try clear hk); (try clear hi); have hcz12_0 : w11.cell? ⟨gb1050, 0, none⟩ = some (.slice A0_0 l0_0.length c0_0) := (blk_cell BK1050.out 0).trans rfl; have hfz12_0 := blk_frozen BK1050.out 0) | (go_at_call 41; (with_reducible refine (impl_OpenBlock.calls k _ _ l0_0 t1052 _ ?side1 ?side2 A4.out).mono ?_); (case side1 => repeat (first | exact (Kd.C_below HR0_0.out HB.out) | (with_reducible refine Kd.C_alloc ?_ _) | (with_reducible refine Kd.C_drewN ?_ _) | (with_reducible refine Kd.C_drew ?_))); (case side2 => exact HC0_0.out); rintro e w13 ⟨rfl, hb⟩; have n0_ := Aside0.mk (blk_below (g := gb1050) (o := .cells #[.slice A0_0 l0_0.length c0_0] 63 (0, 0)) (by (with_reducible repeat (first | refine blk_drewN ?_ _ | refine blk_drew ?_ | refine blk_alloc ?_ _)); exact BK1050.out) hb); have n1_ := Aside0.mk (below_step (by repeat (first | (with_reducible first | exact HB.out | apply below_alloc | apply pw_below_drewN | apply below_drew1 | refine below_set ?_ GE1050.out) | exact HB.out)) hb); clear BK1050; clear HB; have BK1050 := n0_; have HB := n1_; clear n0_ n1_; (try clear hb); (try clear hb2); (try clear hk); (try clear hi); have hcz14_0 : w13.cell? ⟨gb1050, 0, none⟩ = some (.slice A0_0 l0_0.length c0_0) := (blk_cell BK1050.out 0).trans rfl; have hfz14_0 := blk_frozen BK1050.out 0; have p1053 : 0 ≤ (t1052 : Int) := of_decide_eq_true (by first | (with_reducible assumption) | assumption); have q1053 : t1052 < (l0_0.length : Int) := of_decide_eq_true (by first | (with_reducible assumption) | assumption); obtain ⟨ad1053, A1053_2, c1053_2, e1053, hx1053_0, hx1053_1, hx1053_2, hl1053_2, hi1053_2⟩ := at_T71 HR0_0.out t1052 p1053 q1053; cases e1053; replace hx1053_0 := (HB.out.cell (World.block_lt_of_cell? w _ hx1053_0)).trans hx1053_0; replace hx1053_1 := (HB.out.cell (World.block_lt_of_cell? w _ hx1053_1)).trans hx1053_1; replace hx1053_2 := (HB.out.cell (World.block_lt_of_cell? w _ hx1053_2)).trans hx1053_2; have HR1053_2 := Aside0.mk hi1053_2; have HC1053_2 := Aside0.mk hl1053_2; clear hi1053_2 hl1053_2; replace p1053 := eq_true p1053; replace q1053 := eq_true q1053) | (go_at_call 107; (with_reducible refine (impl_NextBlank.calls k ((rd_T71 l0_0 t1052).f0) ((rd_T71 l0_0 t1052).f1) _ _ ((rd_T71 l0_0 t1052).f2) t1054 _ ?side1 ?side2 A8.out).mono ?_); (case side1 => repeat (first | exact (Kd.C_below HR1053_2.out HB.out) | (with_reducible refine Kd.C_alloc ?_ _) | (with_reducible refine Kd.C_drewN ?_ _) | (with_reducible refine Kd.C_drew ?_))); (case side2 => exact HC1053_2.out); rintro e w15 ⟨rfl, hb⟩; have n0_ := Aside0.mk (blk_below (g := gb1050) (o := .cells #[.slice (some ad1053) l0_0.length c0_0] 63 (0, 0)) (by (with_reducible repeat (first | refine blk_drewN ?_ _ | refine blk_drew ?_ | refine blk_alloc ?_ _)); exact BK1050.out) hb); have n1_ := Aside0.mk (below_step (by repeat (first | (with_reducible first | exact HB.out | apply below_alloc | apply pw_below_drewN | apply below_drew1 | refine below_set ?_ GE1050.out) | exact HB.out)) hb); clear BK1050; clear HB; have BK1050 := n0_; have HB := n1_; clear n0_ n1_; (try clear hb); (try clear hb2); (try clear hk); (try clear hi)))
          repeat (go_quiet (first | ((with_reducible refine gate_dst (N := 1) rfl ?_); refine box_event ?hg (N := 1) ?hd (cs := #[.slice A0_0 l0_0.length c0_0]) (t := 63) ?hr ?_; (case hd => rfl); (case hg => rfl); (case hr => first | (go_simp; done) | (go_simp; rfl)); intro gb1050 hg w9 hbox hb; have n0_ := Aside0.mk (below_step (by repeat (first | (with_reducible first | exact HB.out | apply below_alloc | apply pw_below_drewN | apply below_drew1) | exact HB.out)) hb); have n1_ := Aside0.mk (hbox); have n2_ := Aside0.mk ((by rw [hg]; exact (below_size (by repeat (first | (with_reducible first | exact HB.out | apply below_alloc | apply pw_below_drewN | apply below_drew1) | exact HB.out))) : w.heap.size ≤ gb1050)); have n3_ := Aside0.mk ((by rw [hg]; exact (below_size (by repeat (first | (with_reducible first | exact HB.out | apply below_alloc | apply pw_below_drewN | apply below_drew1) | exact HB.out))) : w.heap.size ≤ gb1050)); clear HB; have HB := n0_; have BK1050 := n1_; have GW1050 := n2_; have GE1050 := n3_; clear n0_ n1_ n2_ n3_; clear hb hbox hg; have hcz10_0 : w9.cell? ⟨gb1050, 0, none⟩ = some (.slice A0_0 l0_0.length c0_0) := (blk_cell BK1050.out 0).trans rfl; have hfz10_0 := blk_frozen BK1050.out 0) | (go_at_call 106; (with_reducible refine (impl_FlashOk.calls k _ _ l0_0 true _ ?side1 ?side2 A2.out).mono ?_); (case side1 => repeat (first | exact (Kd.C_below HR0_0.out HB.out) | (with_reducible refine Kd.C_alloc ?_ _) | (with_reducible refine Kd.C_drewN ?_ _) | (with_reducible refine Kd.C_drew ?_))); (case side2 => exact HC0_0.out); rintro e w11 ⟨rfl, hb⟩; have n0_ := Aside0.mk (blk_below (g := gb1050) (o := .cells #[.slice A0_0 l0_0.length c0_0] 63 (0, 0)) (by (with_reducible repeat (first | refine blk_drewN ?_ _ | refine blk_drew ?_ | refine blk_alloc ?_ _)); exact BK1050.out) hb); have n1_ := Aside0.mk (below_step (by repeat (first | (with_reducible first | exact HB.out | apply below_alloc | apply pw_below_drewN | apply below_drew1 | refine below_set ?_ GE1050.out) | exact HB.out)) hb); clear BK1050; clear HB; have BK1050 := n0_; have HB := n1_; clear n0_ n1_; (try clear hb); (try clear hb2); (try clear hk); (try clear hi); have hcz12_0 : w11.cell? ⟨gb1050, 0, none⟩ = some (.slice A0_0 l0_0.length c0_0) := (blk_cell BK1050.out 0).trans rfl; have hfz12_0 := blk_frozen BK1050.out 0) | (go_at_call 41; (with_reducible refine (impl_OpenBlock.calls k _ _ l0_0 t1052 _ ?side1 ?side2 A4.out).mono ?_); (case side1 => repeat (first | exact (Kd.C_below HR0_0.out HB.out) | (with_reducible refine Kd.C_alloc ?_ _) | (with_reducible refine Kd.C_drewN ?_ _) | (with_reducible refine Kd.C_drew ?_))); (case side2 => exact HC0_0.out); rintro e w13 ⟨rfl, hb⟩; have n0_ := Aside0.mk (blk_below (g := gb1050) (o := .cells #[.slice A0_0 l0_0.length c0_0] 63 (0, 0)) (by (with_reducible repeat (first | refine blk_drewN ?_ _ | refine blk_drew ?_ | refine blk_alloc ?_ _)); exact BK1050.out) hb); have n1_ := Aside0.mk (below_step (by repeat (first | (with_reducible first | exact HB.out | apply below_alloc | apply pw_below_drewN | apply below_drew1 | refine below_set ?_ GE1050.out) | exact HB.out)) hb); clear BK1050; clear HB; have BK1050 := n0_; have HB := n1_; clear n0_ n1_; (try clear hb); (try clear hb2); (try clear hk); (try clear hi); have hcz14_0 : w13.cell? ⟨gb1050, 0, none⟩ = some (.slice A0_0 l0_0.length c0_0) := (blk_cell BK1050.out 0).trans rfl; have hfz14_0 := blk_frozen BK1050.out 0; have p1053 : 0 ≤ (t1052 : Int) := of_decide_eq_true (by first | (with_reducible assumption) | assumption); have q1053 : t1052 < (l0_0.length : Int) := of_decide_eq_true (by first | (with_reducible assumption) | assumption); obtain ⟨ad1053, A1053_2, c1053_2, e1053, hx1053_0, hx1053_1, hx1053_2, hl1053_2, hi1053_2⟩ := at_T71 HR0_0.out t1052 p1053 q1053; cases e1053; replace hx1053_0 := (HB.out.cell (World.block_lt_of_cell? w _ hx1053_0)).trans hx1053_0; replace hx1053_1 := (HB.out.cell (World.block_lt_of_cell? w _ hx1053_1)).trans hx1053_1; replace hx1053_2 := (HB.out.cell (World.block_lt_of_cell? w _ hx1053_2)).trans hx1053_2; have HR1053_2 := Aside0.mk hi1053_2; have HC1053_2 := Aside0.mk hl1053_2; clear hi1053_2 hl1053_2; replace p1053 := eq_true p1053; replace q1053 := eq_true q1053) | (go_at_call 107; (with_reducible refine (impl_NextBlank.calls k ((rd_T71 l0_0 t1052).f0) ((rd_T71 l0_0 t1052).f1) _ _ ((rd_T71 l0_0 t1052).f2) t1054 _ ?side1 ?side2 A8.out).mono ?_); (case side1 => repeat (first | exact (Kd.C_below HR1053_2.out HB.out) | (with_reducible refine Kd.C_alloc ?_ _) | (with_reducible refine Kd.C_drewN ?_ _) | (with_reducible refine Kd.C_drew ?_))); (case side2 => exact HC1053_2.out); rintro e w15 ⟨rfl, hb⟩; have n0_ := Aside0.mk (blk_below (g := gb1050) (o := .cells #[.slice (some ad1053) l0_0.length c0_0] 63 (0, 0)) (by (with_reducible repeat (first | refine blk_drewN ?_ _ | refine blk_drew ?_ | refine blk_alloc ?_ _)); exact BK1050.out) hb); have n1_ := Aside0.mk (below_step (by repeat (first | (with_reducible first | exact HB.out | apply below_alloc | apply pw_below_drewN | apply below_drew1 | refine below_set ?_ GE1050.out) | exact HB.out)) hb); clear BK1050; clear HB; have BK1050 := n0_; have HB := n1_; clear n0_ n1_; (try clear hb); (try clear hb2); (try clear hk); (try clear hi))); try go_wp2_with (first | ((with_reducible refine gate_dst (N := 1) rfl ?_); refine box_event ?hg (N := 1) ?hd (cs := #[.slice A0_0 l0_0.length c0_0]) (t := 63) ?hr ?_; (case hd => rfl); (case hg => rfl); (case hr => first | (go_simp; done) | (go_simp; rfl)); intro gb1050 hg w9 hbox hb; have n0_ := Aside0.mk (below_step (by repeat (first | (with_reducible first | exact HB.out | apply below_alloc | apply pw_below_drewN | apply below_drew1) | exact HB.out)) hb); have n1_ := Aside0.mk (hbox); have n2_ := Aside0.mk ((by rw [hg]; exact (below_size (by repeat (first | (with_reducible first | exact HB.out | apply below_alloc | apply pw_below_drewN | apply below_drew1) | exact HB.out))) : w.heap.size ≤ gb1050)); have n3_ := Aside0.mk ((by rw [hg]; exact (below_size (by repeat (first | (with_reducible first | exact HB.out | apply below_alloc | apply pw_below_drewN | apply below_drew1) | exact HB.out))) : w.heap.size ≤ gb1050)); clear HB; have HB := n0_; have BK1050 := n1_; have GW1050 := n2_; have GE1050 := n3_; clear n0_ n1_ n2_ n3_; clear hb hbox hg; have hcz10_0 : w9.cell? ⟨gb1050, 0, none⟩ = some (.slice A0_0 l0_0.length c0_0) := (blk_cell BK1050.out 0).trans rfl; have hfz10_0 := blk_frozen BK1050.out 0) | (go_at_call 106; (with_reducible refine (impl_FlashOk.calls k _ _ l0_0 true _ ?side1 ?side2 A2.out).mono ?_); (case side1 => repeat (first | exact (Kd.C_below HR0_0.out HB.out) | (with_reducible refine Kd.C_alloc ?_ _) | (with_reducible refine Kd.C_drewN ?_ _) | (with_reducible refine Kd.C_drew ?_))); (case side2 => exact HC0_0.out); rintro e w11 ⟨rfl, hb⟩; have n0_ := Aside0.mk (blk_below (g := gb1050) (o := .cells #[.slice A0_0 l0_0.length c0_0] 63 (0, 0)) (by (with_reducible repeat (first | refine blk_drewN ?_ _ | refine blk_drew ?_ | refine blk_alloc ?_ _)); exact BK1050.out) hb); have n1_ := Aside0.mk (below_step (by repeat (first | (with_reducible first | exact HB.out | apply below_alloc | apply pw_below_drewN | apply below_drew1 | refine below_set ?_ GE1050.out) | exact HB.out)) hb); clear BK1050; clear HB; have BK1050 := n0_; have HB := n1_; clear n0_ n1_; (try clear hb); (try clear hb2); (try clear hk); (try clear hi); have hcz12_0 : w11.cell? ⟨gb1050, 0, none⟩ = some (.slice A0_0 l0_0.length c0_0) := (blk_cell BK1050.out 0).trans rfl; have hfz12_0 := blk_frozen BK1050.out 0) | (go_at_call 41; (with_reducible refine (impl_OpenBlock.calls k _ _ l0_0 t1052 _ ?side1 ?side2 A4.out).mono ?_); (case side1 => repeat (first | exact (Kd.C_below HR0_0.out HB.out) | (with_reducible refine Kd.C_alloc ?_ _) | (with_reducible refine Kd.C_drewN ?_ _) | (with_reducible refine Kd.C_drew ?_))); (case side2 => exact HC0_0.out); rintro e w13 ⟨rfl, hb⟩; have n0_ := Aside0.mk (blk_below (g := gb1050) (o := .cells #[.slice A0_0 l0_0.length c0_0] 63 (0, 0)) (by (with_reducible repeat (first | refine blk_drewN ?_ _ | refine blk_drew ?_ | refine blk_alloc ?_ _)); exact BK1050.out) hb); have n1_ := Aside0.mk (below_step (by repeat (first | (with_reducible first | exact HB.out | apply below_alloc | apply pw_below_drewN | apply below_drew1 | refine below_set ?_ GE1050.out) | exact HB.out)) hb); clear BK1050; clear HB; have BK1050 := n0_; have HB := n1_; clear n0_ n1_; (try clear hb); (try clear hb2); (try clear hk); (try clear hi); have hcz14_0 : w13.cell? ⟨gb1050, 0, none⟩ = some (.slice A0_0 l0_0.length c0_0) := (blk_cell BK1050.out 0).trans rfl; have hfz14_0 := blk_frozen BK1050.out 0; have p1053 : 0 ≤ (t1052 : Int) := of_decide_eq_true (by first | (with_reducible assumption) | assumption); have q1053 : t1052 < (l0_0.length : Int) := of_decide_eq_true (by first | (with_reducible assumption) | assumption); obtain ⟨ad1053, A1053_2, c1053_2, e1053, hx1053_0, hx1053_1, hx1053_2, hl1053_2, hi1053_2⟩ := at_T71 HR0_0.out t1052 p1053 q1053; cases e1053; replace hx1053_0 := (HB.out.cell (World.block_lt_of_cell? w _ hx1053_0)).trans hx1053_0; replace hx1053_1 := (HB.out.cell (World.block_lt_of_cell? w _ hx1053_1)).trans hx1053_1; replace hx1053_2 := (HB.out.cell (World.block_lt_of_cell? w _ hx1053_2)).trans hx1053_2; have HR1053_2 := Aside0.mk hi1053_2; have HC1053_2 := Aside0.mk hl1053_2; clear hi1053_2 hl1053_2; replace p1053 := eq_true p1053; replace q1053 := eq_true q1053) | (go_at_call 107; (with_reducible refine (impl_NextBlank.calls k ((rd_T71 l0_0 t1052).f0) ((rd_T71 l0_0 t1052).f1) _ _ ((rd_T71 l0_0 t1052).f2) t1054 _ ?side1 ?side2 A8.out).mono ?_); (case side1 => repeat (first | exact (Kd.C_below HR1053_2.out HB.out) | (with_reducible refine Kd.C_alloc ?_ _) | (with_reducible refine Kd.C_drewN ?_ _) | (with_reducible refine Kd.C_drew ?_))); (case side2 => exact HC1053_2.out); rintro e w15 ⟨rfl, hb⟩; have n0_ := Aside0.mk (blk_below (g := gb1050) (o := .cells #[.slice (some ad1053) l0_0.length c0_0] 63 (0, 0)) (by (with_reducible repeat (first | refine blk_drewN ?_ _ | refine blk_drew ?_ | refine blk_alloc ?_ _)); exact BK1050.out) hb); have n1_ := Aside0.mk (below_step (by repeat (first | (with_reducible first | exact HB.out | apply below_alloc | apply pw_below_drewN | apply below_drew1 | refine below_set ?_ GE1050.out) | exact HB.out)) hb); clear BK1050; clear HB; have BK1050 := n0_; have HB := n1_; clear n0_ n1_; (try clear hb); (try clear hb2); (try clear hk); (try clear hi))))
          go_ret3
          exact ⟨by first | rfl | (simp [errW_none, errW_some] <;> rfl) | (simp [*, errW_none, errW_some] <;> rfl), by repeat (first | (with_reducible first | exact HB.out | apply below_alloc | apply pw_below_drewN | apply below_drew1 | refine below_set ?_ GE1050.out) | exact HB.out)⟩
        · rw [if_neg c7] at H
          exact absurd H (by simp)
      · rw [if_neg c6] at H
        exact absurd H (by simp)
    · rw [if_neg c5] at H
      have c5b0 : decide (0 ≤ t1052) = false := decide_eq_false c5
      clear c5
      replace H := Option.bind_eq_some_iff.mp H
      obtain ⟨t1055, A160, H⟩ := H
      replace H : (impl_PlaceOf.l0 k (-1) t1055 (t1055.length : Int) 0 l0_0) = some (r1, r2, r3) := H
      have A16 := Aside0.mk A160
      clear A160
      have H' := Aside0.mk H
      clear H
      go_enter Try.func37, Try.ntmps37
      go_wp2_with (first | ((with_reducible refine gate_dst (N := 1) rfl ?_); refine box_event ?hg (N := 1) ?hd (cs := #[.slice A0_0 l0_0.length c0_0]) (t := 63) ?hr ?_; (case hd => rfl); (case hg => rfl); (case hr => first | (go_simp; done) | (go_simp; rfl)); intro gb1050 hg w17 hbox hb; have n0_ := Aside0.mk (below_step (by repeat (first | (with_reducible first | exact HB.out | apply below_alloc | apply pw_below_drewN | apply below_drew1) | exact HB.out)) hb); have n1_ := Aside0.mk (hbox); have n2_ := Aside0.mk ((by rw [hg]; exact (below_size (by repeat (first | (with_reducible first | exact HB.out | apply below_alloc | apply pw_below_drewN | apply below_drew1) | exact HB.out))) : w.heap.size ≤ gb1050)); have n3_ := Aside0.mk ((by rw [hg]; exact (below_size (by repeat (first | (with_reducible first | exact HB.out | apply below_alloc | apply pw_below_drewN | apply below_drew1) | exact HB.out))) : w.heap.size ≤ gb1050)); clear HB; have HB := n0_; have BK1050 := n1_; have GW1050 := n2_; have GE1050 := n3_; clear n0_ n1_ n2_ n3_; clear hb hbox hg; have hcz18_0 : w17.cell? ⟨gb1050, 0, none⟩ = some (.slice A0_0 l0_0.length c0_0) := (blk_cell BK1050.out 0).trans rfl; have hfz18_0 := blk_frozen BK1050.out 0) | (go_at_call 106; (with_reducible refine (impl_FlashOk.calls k _ _ l0_0 true _ ?side1 ?side2 A2.out).mono ?_); (case side1 => repeat (first | exact (Kd.C_below HR0_0.out HB.out) | (with_reducible refine Kd.C_alloc ?_ _) | (with_reducible refine Kd.C_drewN ?_ _) | (with_reducible refine Kd.C_drew ?_))); (case side2 => exact HC0_0.out); rintro e w19 ⟨rfl, hb⟩; have n0_ := Aside0.mk (blk_below (g := gb1050) (o := .cells #[.slice A0_0 l0_0.length c0_0] 63 (0, 0)) (by (with_reducible repeat (first | refine blk_drewN ?_ _ | refine blk_drew ?_ | refine blk_alloc ?_ _)); exact BK1050.out) hb); have n1_ := Aside0.mk (below_step (by repeat (first | (with_reducible first | exact HB.out | apply below_alloc | apply pw_below_drewN | apply below_drew1 | refine below_set ?_ GE1050.out) | exact HB.out)) hb); clear BK1050; clear HB; have BK1050 := n0_; have HB := n1_; clear n0_ n1_; (try clear hb); (try clear hb2); (try clear hk); (try clear hi); have hcz20_0 : w19.cell? ⟨gb1050, 0, none⟩ = some (.slice A0_0 l0_0.length c0_0) := (blk_cell BK1050.out 0).trans rfl; have hfz20_0 := blk_frozen BK1050.out 0) | (go_at_call 41; (with_reducible refine (impl_OpenBlock.calls k _ _ l0_0 t1052 _ ?side1 ?side2 A4.out).mono ?_); (case side1 => repeat (first | exact (Kd.C_below HR0_0.out HB.out) | (with_reducible refine Kd.C_alloc ?_ _) | (with_reducible refine Kd.C_drewN ?_ _) | (with_reducible refine Kd.C_drew ?_))); (case side2 => exact HC0_0.out); rintro e w21 ⟨rfl, hb⟩; have n0_ := Aside0.mk (blk_below (g := gb1050) (o := .cells #[.slice A0_0 l0_0.length c0_0] 63 (0, 0)) (by (with_reducible repeat (first | refine blk_drewN ?_ _ | refine blk_drew ?_ | refine blk_alloc ?_ _)); exact BK1050.out) hb); have n1_ := Aside0.mk (below_step (by repeat (first | (with_reducible first | exact HB.out | apply below_alloc | apply pw_below_drewN | apply below_drew1 | refine below_set ?_ GE1050.out) | exact HB.out)) hb); clear BK1050; clear HB; have BK1050 := n0_; have HB := n1_; clear n0_ n1_; (try clear hb); (try clear hb2); (try clear hk); (try clear hi); have hcz22_0 : w21.cell? ⟨gb1050, 0, none⟩ = some (.slice A0_0 l0_0.length c0_0) := (blk_cell BK1050.out 0).trans rfl; have hfz22_0 := blk_frozen BK1050.out 0) | (go_at_call 39; (with_reducible refine (impl_FreeBlocks.calls k _ _ l0_0 t1055 _ ?side1 ?side2 A16.out).mono ?_); (case side1 => repeat (first | exact (Kd.C_below HR0_0.out HB.out) | (with_reducible refine Kd.C_alloc ?_ _) | (with_reducible refine Kd.C_drewN ?_ _) | (with_reducible refine Kd.C_drew ?_))); (case side2 => exact HC0_0.out); rintro e w23 ⟨v1056, rfl, ho0, hb⟩; have n0_ := Aside0.mk (Kd.R_lower ho0 (below_size (by repeat (first | (with_reducible first | exact HB.out | apply below_alloc | apply pw_below_drewN | apply below_drew1 | refine below_set ?_ GE1050.out) | exact HB.out)))); have n1_ := Aside0.mk (blk_below (g := gb1050) (o := .cells #[.slice A0_0 l0_0.length c0_0] 63 (0, 0)) (by (with_reducible repeat (first | refine blk_drewN ?_ _ | refine blk_drew ?_ | refine blk_alloc ?_ _)); exact BK1050.out) hb); have n2_ := Aside0.mk (below_step (by repeat (first | (with_reducible first | exact HB.out | apply below_alloc | apply pw_below_drewN | apply below_drew1 | refine below_set ?_ GE1050.out) | exact HB.out)) hb); clear BK1050; clear HB; have HO1057 := n0_; have BK1050 := n1_; have HB := n2_; clear n0_ n1_ n2_; (try clear hb); (try clear hb2); (try clear hk); (try clear hi); (try clear ho0); obtain ⟨Ao24, co24, eo24⟩ := Kd.R_slice HO1057.out; subst eo24))
      repeat (go_quiet (first | ((with_reducible refine gate_dst (N := 1) rfl ?_); refine box_event ?hg (N := 1) ?hd (cs := #[.slice A0_0 l0_0.length c0_0]) (t := 63) ?hr ?_; (case hd => rfl); (case hg => rfl); (case hr => first | (go_simp; done) | (go_simp; rfl)); intro gb1050 hg w17 hbox hb; have n0_ := Aside0.mk (below_step (by repeat (first | (with_reducible first | exact HB.out | apply below_alloc | apply pw_below_drewN | apply below_drew1) | exact HB.out)) hb); have n1_ := Aside0.mk (hbox); have n2_ := Aside0.mk ((by rw [hg]; exact (below_size (by repeat (first | (with_reducible first | exact HB.out | apply below_alloc | apply pw_below_drewN | apply below_drew1) | exact HB.out))) : w.heap.size ≤ gb1050)); have n3_ := Aside0.mk ((by rw [hg]; exact (below_size (by repeat (first | (with_reducible first | exact HB.out | apply below_alloc | apply pw_below_drewN | apply below_drew1) | exact HB.out))) : w.heap.size ≤ gb1050)); clear HB; have HB := n0_; have BK1050 := n1_; have GW1050 := n2_; have GE1050 := n3_; clear n0_ n1_ n2_ n3_; clear hb hbox hg; have hcz18_0 : w17.cell? ⟨gb1050, 0, none⟩ = some (.slice A0_0 l0_0.length c0_0) := (blk_cell BK1050.out 0).trans rfl; have hfz18_0 := blk_frozen BK1050.out 0) | (go_at_call 106; (with_reducible refine (impl_FlashOk.calls k _ _ l0_0 true _ ?side1 ?side2 A2.out).mono ?_); (case side1 => repeat (first | exact (Kd.C_below HR0_0.out HB.out) | (with_reducible refine Kd.C_alloc ?_ _) | (with_reducible refine Kd.C_drewN ?_ _) | (with_reducible refine Kd.C_drew ?_))); (case side2 => exact HC0_0.out); rintro e w19 ⟨rfl, hb⟩; have n0_ := Aside0.mk (blk_below (g := gb1050) (o := .cells #[.slice A0_0 l0_0.length c0_0] 63 (0, 0)) (by (with_reducible repeat (first | refine blk_drewN ?_ _ | refine blk_drew ?_ | refine blk_alloc ?_ _)); exact BK1050.out) hb); have n1_ := Aside0.mk (below_step (by repeat (first | (with_reducible first | exact HB.out | apply below_alloc | apply pw_below_drewN | apply below_drew1 | refine below_set ?_ GE1050.out) | exact HB.out)) hb); clear BK1050; clear HB; have BK1050 := n0_; have HB := n1_; clear n0_ n1_; (try clear hb); (try clear hb2); (try clear hk); (try clear hi); have hcz20_0 : w19.cell? ⟨gb1050, 0, none⟩ = some (.slice A0_0 l0_0.length c0_0) := (blk_cell BK1050.out 0).trans rfl; have hfz20_0 := blk_frozen BK1050.out 0) | (go_at_call 41; (with_reducible refine (impl_OpenBlock.calls k _ _ l0_0 t1052 _ ?side1 ?side2 A4.out).mono ?_); (case side1 => repeat (first | exact (Kd.C_below HR0_0.out HB.out) | (with_reducible refine Kd.C_alloc ?_ _) | (with_reducible refine Kd.C_drewN ?_ _) | (with_reducible refine Kd.C_drew ?_))); (case side2 => exact HC0_0.out); rintro e w21 ⟨rfl, hb⟩; have n0_ := Aside0.mk (blk_below (g := gb1050) (o := .cells #[.slice A0_0 l0_0.length c0_0] 63 (0, 0)) (by (with_reducible repeat (first | refine blk_drewN ?_ _ | refine blk_drew ?_ | refine blk_alloc ?_ _)); exact BK1050.out) hb); have n1_ := Aside0.mk (below_step (by repeat (first | (with_reducible first | exact HB.out | apply below_alloc | apply pw_below_drewN | apply below_drew1 | refine below_set ?_ GE1050.out) | exact HB.out)) hb); clear BK1050; clear HB; have BK1050 := n0_; have HB := n1_; clear n0_ n1_; (try clear hb); (try clear hb2); (try clear hk); (try clear hi); have hcz22_0 : w21.cell? ⟨gb1050, 0, none⟩ = some (.slice A0_0 l0_0.length c0_0) := (blk_cell BK1050.out 0).trans rfl; have hfz22_0 := blk_frozen BK1050.out 0) | (go_at_call 39; (with_reducible refine (impl_FreeBlocks.calls k _ _ l0_0 t1055 _ ?side1 ?side2 A16.out).mono ?_); (case side1 => repeat (first | exact (Kd.C_below HR0_0.out HB.out) | (with_reducible refine Kd.C_alloc ?_ _) | (with_reducible refine Kd.C_drewN ?_ _) | (with_reducible refine Kd.C_drew ?_))); (case side2 => exact HC0_0.out); rintro e w23 ⟨v1056, rfl, ho0, hb⟩; have n0_ := Aside0.mk (Kd.R_lower ho0 (below_size (by repeat (first | (with_reducible first | exact HB.out | apply below_alloc | apply pw_below_drewN | apply below_drew1 | refine below_set ?_ GE1050.out) | exact HB.out)))); have n1_ := Aside0.mk (blk_below (g := gb1050) (o := .cells #[.slice A0_0 l0_0.length c0_0] 63 (0, 0)) (by (with_reducible repeat (first | refine blk_drewN ?_ _ | refine blk_drew ?_ | refine blk_alloc ?_ _)); exact BK1050.out) hb); have n2_ := Aside0.mk (below_step (by repeat (first | (with_reducible first | exact HB.out | apply below_alloc | apply pw_below_drewN | apply below_drew1 | refine below_set ?_ GE1050.out) | exact HB.out)) hb); clear BK1050; clear HB; have HO1057 := n0_; have BK1050 := n1_; have HB := n2_; clear n0_ n1_ n2_; (try clear hb); (try clear hb2); (try clear hk); (try clear hi); (try clear ho0); obtain ⟨Ao24, co24, eo24⟩ := Kd.R_slice HO1057.out; subst eo24)); try go_wp2_with (first | ((with_reducible refine gate_dst (N := 1) rfl ?_); refine box_event ?hg (N := 1) ?hd (cs := #[.slice A0_0 l0_0.length c0_0]) (t := 63) ?hr ?_; (case hd => rfl); (case hg => rfl); (case hr => first | (go_simp; done) | (go_simp; rfl)); intro gb1050 hg w17 hbox hb; have n0_ := Aside0.mk (below_step (by repeat (first | (with_reducible first | exact HB.out | apply below_alloc | apply pw_below_drewN | apply below_drew1) | exact HB.out)) hb); have n1_ := Aside0.mk (hbox); have n2_ := Aside0.mk ((by rw [hg]; exact (below_size (by repeat (first | (with_reducible first | exact HB.out | apply below_alloc | apply pw_below_drewN | apply below_drew1) | exact HB.out))) : w.heap.size ≤ gb1050)); have n3_ := Aside0.mk ((by rw [hg]; exact (below_size (by repeat (first | (with_reducible first | exact HB.out | apply below_alloc | apply pw_below_drewN | apply below_drew1) | exact HB.out))) : w.heap.size ≤ gb1050)); clear HB; have HB := n0_; have BK1050 := n1_; have GW1050 := n2_; have GE1050 := n3_; clear n0_ n1_ n2_ n3_; clear hb hbox hg; have hcz18_0 : w17.cell? ⟨gb1050, 0, none⟩ = some (.slice A0_0 l0_0.length c0_0) := (blk_cell BK1050.out 0).trans rfl; have hfz18_0 := blk_frozen BK1050.out 0) | (go_at_call 106; (with_reducible refine (impl_FlashOk.calls k _ _ l0_0 true _ ?side1 ?side2 A2.out).mono ?_); (case side1 => repeat (first | exact (Kd.C_below HR0_0.out HB.out) | (with_reducible refine Kd.C_alloc ?_ _) | (with_reducible refine Kd.C_drewN ?_ _) | (with_reducible refine Kd.C_drew ?_))); (case side2 => exact HC0_0.out); rintro e w19 ⟨rfl, hb⟩; have n0_ := Aside0.mk (blk_below (g := gb1050) (o := .cells #[.slice A0_0 l0_0.length c0_0] 63 (0, 0)) (by (with_reducible repeat (first | refine blk_drewN ?_ _ | refine blk_drew ?_ | refine blk_alloc ?_ _)); exact BK1050.out) hb); have n1_ := Aside0.mk (below_step (by repeat (first | (with_reducible first | exact HB.out | apply below_alloc | apply pw_below_drewN | apply below_drew1 | refine below_set ?_ GE1050.out) | exact HB.out)) hb); clear BK1050; clear HB; have BK1050 := n0_; have HB := n1_; clear n0_ n1_; (try clear hb); (try clear hb2); (try clear hk); (try clear hi); have hcz20_0 : w19.cell? ⟨gb1050, 0, none⟩ = some (.slice A0_0 l0_0.length c0_0) := (blk_cell BK1050.out 0).trans rfl; have hfz20_0 := blk_frozen BK1050.out 0) | (go_at_call 41; (with_reducible refine (impl_OpenBlock.calls k _ _ l0_0 t1052 _ ?side1 ?side2 A4.out).mono ?_); (case side1 => repeat (first | exact (Kd.C_below HR0_0.out HB.out) | (with_reducible refine Kd.C_alloc ?_ _) | (with_reducible refine Kd.C_drewN ?_ _) | (with_reducible refine Kd.C_drew ?_))); (case side2 => exact HC0_0.out); rintro e w21 ⟨rfl, hb⟩; have n0_ := Aside0.mk (blk_below (g := gb1050) (o := .cells #[.slice A0_0 l0_0.length c0_0] 63 (0, 0)) (by (with_reducible repeat (first | refine blk_drewN ?_ _ | refine blk_drew ?_ | refine blk_alloc ?_ _)); exact BK1050.out) hb); have n1_ := Aside0.mk (below_step (by repeat (first | (with_reducible first | exact HB.out | apply below_alloc | apply pw_below_drewN | apply below_drew1 | refine below_set ?_ GE1050.out) | exact HB.out)) hb); clear BK1050; clear HB; have BK1050 := n0_; have HB := n1_; clear n0_ n1_; (try clear hb); (try clear hb2); (try clear hk); (try clear hi); have hcz22_0 : w21.cell? ⟨gb1050, 0, none⟩ = some (.slice A0_0 l0_0.length c0_0) := (blk_cell BK1050.out 0).trans rfl; have hfz22_0 := blk_frozen BK1050.out 0) | (go_at_call 39; (with_reducible refine (impl_FreeBlocks.calls k _ _ l0_0 t1055 _ ?side1 ?side2 A16.out).mono ?_); (case side1 => repeat (first | exact (Kd.C_below HR0_0.out HB.out) | (with_reducible refine Kd.C_alloc ?_ _) | (with_reducible refine Kd.C_drewN ?_ _) | (with_reducible refine Kd.C_drew ?_))); (case side2 => exact HC0_0.out); rintro e w23 ⟨v1056, rfl, ho0, hb⟩; have n0_ := Aside0.mk (Kd.R_lower ho0 (below_size (by repeat (first | (with_reducible first | exact HB.out | apply below_alloc | apply pw_below_drewN | apply below_drew1 | refine below_set ?_ GE1050.out) | exact HB.out)))); have n1_ := Aside0.mk (blk_below (g := gb1050) (o := .cells #[.slice A0_0 l0_0.length c0_0] 63 (0, 0)) (by (with_reducible repeat (first | refine blk_drewN ?_ _ | refine blk_drew ?_ | refine blk_alloc ?_ _)); exact BK1050.out) hb); have n2_ := Aside0.mk (below_step (by repeat (first | (with_reducible first | exact HB.out | apply below_alloc | apply pw_below_drewN | apply below_drew1 | refine below_set ?_ GE1050.out) | exact HB.out)) hb); clear BK1050; clear HB; have HO1057 := n0_; have BK1050 := n1_; have HB := n2_; clear n0_ n1_ n2_; (try clear hb); (try clear hb2); (try clear hk); (try clear hi); (try clear ho0); obtain ⟨Ao24, co24, eo24⟩ := Kd.R_slice HO1057.out; subst eo24)))
      go_loopg [6, 26] k (fun kq v6 v26 w' => ∃ (x6_1 : Int) (x26_1 : Int), v6 = .int .i64 x6_1 ∧ v26 = .int .i64 x26_1 ∧ Aside0 (impl_PlaceOf.l0 kq x6_1 t1055 (t1055.length : Int) x26_1 l0_0 = some (r1, r2, r3)) ∧ Aside0 (kq ≤ k) ∧ Aside0 (Kd.R (Kd.int .i64) 3 w' w.heap.size (fun _ => True) (.slice Ao24 t1055.length co24) t1055) ∧ Aside0 (w'.heap[gb1050]? = some (.cells #[(.slice A0_0 l0_0.length c0_0)] 63 (0, 0))) ∧ Aside0 (Below w.heap.size w w'))
      case atStart => exact ⟨((-1)), (0), (by first | rfl | (simp; done) | (simp [*]; done)), (by first | rfl | (simp; done) | (simp [*]; done)), H', ⟨Nat.le_refl _⟩, ⟨by (with_reducible repeat (first | apply Kd.R_alloc | apply Kd.R_drewN | apply Kd.R_drew)); exact HO1057.out⟩, ⟨by (with_reducible repeat (first | refine blk_drewN ?_ _ | refine blk_drew ?_ | refine blk_alloc ?_ _)); exact BK1050.out⟩, ⟨by repeat (first | (with_reducible first | exact HB.out | apply below_alloc | apply pw_below_drewN | apply below_drew1 | refine below_set ?_ GE1050.out) | exact HB.out)⟩⟩
      case round =>
        clear H'
        try clear c1
        try clear p1
        try clear q1
        try clear hx1
        try clear p2
        try clear c3
        try clear c5
        try clear c5b0
        try clear c6
        try clear c6b0
        try clear c7
        try clear c7b0
        try clear c10
        try clear p10
        try clear q10
        try clear hx10
        try clear hcz10_0
        try clear hcz12_0
        try clear hcz14_0
        try clear hcz18_0
        try clear hcz20_0
        try clear hcz22_0
        try clear hfz10_0
        try clear hfz12_0
        try clear hfz14_0
        try clear hfz18_0
        try clear hfz20_0
        try clear hfz22_0
        try clear hx1053_0
        try clear hx1053_1
        try clear hx1053_2
        try clear p1053
        try clear q1053
        obtain ⟨x6_1, x26_1, rfl, rfl, HA, HK1, HO_24, BK1050, HB⟩ := hrel
        cases gk with
        | zero => exact absurd HA.out (by simp [impl_PlaceOf.l0])
        | succ k1 =>
          have H := HA.out
          clear HA
          simp only [impl_PlaceOf.l0] at H
          by_cases c25 : x26_1 < (t1055.length : Int)
          · rw [if_pos c25] at H
            have c25b0 : decide (x26_1 < (t1055.length : Int)) = true := decide_eq_true c25
            clear c25
            by_cases c26 : 0 ≤ x26_1
            · rw [if_pos c26] at H
              have c26b0 : decide (0 ≤ x26_1) = true := decide_eq_true c26
              clear c26
              by_cases c27 : x26_1 < (t1055.length : Int)
              · rw [if_pos c27] at H
                have c27b0 : decide (x26_1 < (t1055.length : Int)) = true := decide_eq_true c27
                clear c27
                by_cases c28 : x6_1 < 0
                · rw [if_pos c28] at H
                  have c28b0 : decide (x6_1 < 0) = true := decide_eq_true c28
                  clear c28
                  have H' := Aside0.mk H
                  clear H
                  have p1058 : 0 ≤ (x26_1 : Int) := of_decide_eq_true (by first | (with_reducible assumption) | assumption)
                  have q1058 : x26_1 < (t1055.length : Int) := of_decide_eq_true (by first | (with_reducible assumption) | assumption)
                  obtain ⟨ad1058, e1058, hx1058_0⟩ := Kd.at_int (Kd.R_reads' HO_24.out).2.2 x26_1 p1058 q1058
                  cases e1058
                  replace p1058 := eq_true p1058
                  replace q1058 := eq_true q1058
                  go_wp2
                  repeat (go_quiet (fail); try go_wp2)
                  go_roundg k1
                  case measure => have := HK1.out; omega
                  case rel => exact ⟨(rd t1055 x26_1), (wrap64 (x26_1 + 1)), (by first | rfl | (simp; done) | (simp [*]; done)), (by first | rfl | (simp; done) | (simp [*]; done)), H', ⟨by have := HK1.out; omega⟩, ⟨by (with_reducible repeat (first | apply Kd.R_alloc | apply Kd.R_drewN | apply Kd.R_drew)); exact HO_24.out⟩, ⟨by (with_reducible repeat (first | refine blk_drewN ?_ _ | refine blk_drew ?_ | refine blk_alloc ?_ _)); exact BK1050.out⟩, ⟨by repeat (first | (with_reducible first | exact HB.out | apply below_alloc | apply pw_below_drewN | apply below_drew1 | refine below_set ?_ GE1050.out) | exact HB.out)⟩⟩
                · rw [if_neg c28] at H
                  have c28b0 : decide (x6_1 < 0) = false := decide_eq_false c28
                  clear c28
                  by_cases c29 : 0 ≤ (rd t1055 x26_1)
                  · rw [if_pos c29] at H
                    have c29b0 : decide (0 ≤ (rd t1055 x26_1)) = true := decide_eq_true c29
                    clear c29
                    by_cases c30 : (rd t1055 x26_1) < (l0_0.length : Int)
                    · rw [if_pos c30] at H
                      have c30b0 : decide ((rd t1055 x26_1) < (l0_0.length : Int)) = true := decide_eq_true c30
                      clear c30
                      by_cases c31 : 0 ≤ x6_1
                      · rw [if_pos c31] at H
                        have c31b0 : decide (0 ≤ x6_1) = true := decide_eq_true c31
                        clear c31
                        by_cases c32 : x6_1 < (l0_0.length : Int)
                        · rw [if_pos c32] at H
                          have c32b0 : decide (x6_1 < (l0_0.length : Int)) = true := decide_eq_true c32
                          clear c32
                          by_cases c33 : ((rd_T71 l0_0 (rd t1055 x26_1)).f1) < ((rd_T71 l0_0 x6_1).f1)
                          · rw [if_pos c33] at H
                            have c33b0 : decide (((rd_T71 l0_0 (rd t1055 x26_1)).f1) < ((rd_T71 l0_0 x6_1).f1)) = true := decide_eq_true c33
                            clear c33
                            have H' := Aside0.mk H
                            clear H
                            have p1058 : 0 ≤ (x26_1 : Int) := of_decide_eq_true (by first | (with_reducible assumption) | assumption)
                            have q1058 : x26_1 < (t1055.length : Int) := of_decide_eq_true (by first | (with_reducible assumption) | assumption)
                            obtain ⟨ad1058, e1058, hx1058_0⟩ := Kd.at_int (Kd.R_reads' HO_24.out).2.2 x26_1 p1058 q1058
                            cases e1058
                            replace p1058 := eq_true p1058
                            replace q1058 := eq_true q1058
                            have hcz34_0 : wr.cell? ⟨gb1050, 0, none⟩ = some (.slice A0_0 l0_0.length c0_0) := (blk_cell BK1050.out 0).trans rfl
                            have hfz34_0 := blk_frozen BK1050.out 0
                            have p1059 : 0 ≤ ((rd t1055 x26_1) : Int) := of_decide_eq_true (by first | (with_reducible assumption) | assumption)
                            have q1059 : (rd t1055 x26_1) < (l0_0.length : Int) := of_decide_eq_true (by first | (with_reducible assumption) | assumption)
                            obtain ⟨ad1059, A1059_2, c1059_2, e1059, hx1059_0, hx1059_1, hx1059_2, hl1059_2, hi1059_2⟩ := at_T71 HR0_0.out (rd t1055 x26_1) p1059 q1059
                            cases e1059
                            replace hx1059_0 := (HB.out.cell (World.block_lt_of_cell? w _ hx1059_0)).trans hx1059_0
                            replace hx1059_1 := (HB.out.cell (World.block_lt_of_cell? w _ hx1059_1)).trans hx1059_1
                            replace hx1059_2 := (HB.out.cell (World.block_lt_of_cell? w _ hx1059_2)).trans hx1059_2
                            have HR1059_2 := Aside0.mk hi1059_2
                            have HC1059_2 := Aside0.mk hl1059_2
                            clear hi1059_2 hl1059_2
                            replace p1059 := eq_true p1059
                            replace q1059 := eq_true q1059
                            have p1060 : 0 ≤ (x6_1 : Int) := of_decide_eq_true (by first | (with_reducible assumption) | assumption)
                            have q1060 : x6_1 < (l0_0.length : Int) := of_decide_eq_true (by first | (with_reducible assumption) | assumption)
                            obtain ⟨ad1060, A1060_2, c1060_2, e1060, hx1060_0, hx1060_1, hx1060_2, hl1060_2, hi1060_2⟩ := at_T71 HR0_0.out x6_1 p1060 q1060
                            obtain rfl : ad1059 = ad1060 := (by injection e1060)
                            replace hx1060_0 := (HB.out.cell (World.block_lt_of_cell? w _ hx1060_0)).trans hx1060_0
                            replace hx1060_1 := (HB.out.cell (World.block_lt_of_cell? w _ hx1060_1)).trans hx1060_1
                            replace hx1060_2 := (HB.out.cell (World.block_lt_of_cell? w _ hx1060_2)).trans hx1060_2
                            have HR1060_2 := Aside0.mk hi1060_2
                            have HC1060_2 := Aside0.mk hl1060_2
                            clear hi1060_2 hl1060_2
                            replace p1060 := eq_true p1060
                            replace q1060 := eq_true q1060
                            go_wp2
                            repeat (go_quiet (fail); try go_wp2)
                            go_roundg k1
                            case measure => have := HK1.out; omega
                            case rel => exact ⟨(rd t1055 x26_1), (wrap64 (x26_1 + 1)), (by first | rfl | (simp; done) | (simp [*]; done)), (by first | rfl | (simp; done) | (simp [*]; done)), H', ⟨by have := HK1.out; omega⟩, ⟨by (with_reducible repeat (first | apply Kd.R_alloc | apply Kd.R_drewN | apply Kd.R_drew)); exact HO_24.out⟩, ⟨by (with_reducible repeat (first | refine blk_drewN ?_ _ | refine blk_drew ?_ | refine blk_alloc ?_ _)); exact BK1050.out⟩, ⟨by repeat (first | (with_reducible first | exact HB.out | apply below_alloc | apply pw_below_drewN | apply below_drew1 | refine below_set ?_ GE1050.out) | exact HB.out)⟩⟩
                          · rw [if_neg c33] at H
                            have c33b0 : decide (((rd_T71 l0_0 (rd t1055 x26_1)).f1) < ((rd_T71 l0_0 x6_1).f1)) = false := decide_eq_false c33
                            clear c33
                            have H' := Aside0.mk H
                            clear H
                            have p1058 : 0 ≤ (x26_1 : Int) := of_decide_eq_true (by first | (with_reducible assumption) | assumption)
                            have q1058 : x26_1 < (t1055.length : Int) := of_decide_eq_true (by first | (with_reducible assumption) | assumption)
                            obtain ⟨ad1058, e1058, hx1058_0⟩ := Kd.at_int (Kd.R_reads' HO_24.out).2.2 x26_1 p1058 q1058
                            cases e1058
                            replace p1058 := eq_true p1058
                            replace q1058 := eq_true q1058
                            have hcz35_0 : wr.cell? ⟨gb1050, 0, none⟩ = some (.slice A0_0 l0_0.length c0_0) := (blk_cell BK1050.out 0).trans rfl
                            have hfz35_0 := blk_frozen BK1050.out 0
                            have p1059 : 0 ≤ ((rd t1055 x26_1) : Int) := of_decide_eq_true (by first | (with_reducible assumption) | assumption)
                            have q1059 : (rd t1055 x26_1) < (l0_0.length : Int) := of_decide_eq_true (by first | (with_reducible assumption) | assumption)
                            obtain ⟨ad1059, A1059_2, c1059_2, e1059, hx1059_0, hx1059_1, hx1059_2, hl1059_2, hi1059_2⟩ := at_T71 HR0_0.out (rd t1055 x26_1) p1059 q1059
                            cases e1059
                            replace hx1059_0 := (HB.out.cell (World.block_lt_of_cell? w _ hx1059_0)).trans hx1059_0
                            replace hx1059_1 := (HB.out.cell (World.block_lt_of_cell? w _ hx1059_1)).trans hx1059_1
                            replace hx1059_2 := (HB.out.cell (World.block_lt_of_cell? w _ hx1059_2)).trans hx1059_2
                            have HR1059_2 := Aside0.mk hi1059_2
                            have HC1059_2 := Aside0.mk hl1059_2
                            clear hi1059_2 hl1059_2
                            replace p1059 := eq_true p1059
                            replace q1059 := eq_true q1059
                            have p1060 : 0 ≤ (x6_1 : Int) := of_decide_eq_true (by first | (with_reducible assumption) | assumption)
                            have q1060 : x6_1 < (l0_0.length : Int) := of_decide_eq_true (by first | (with_reducible assumption) | assumption)
                            obtain ⟨ad1060, A1060_2, c1060_2, e1060, hx1060_0, hx1060_1, hx1060_2, hl1060_2, hi1060_2⟩ := at_T71 HR0_0.out x6_1 p1060 q1060
                            obtain rfl : ad1059 = ad1060 := (by injection e1060)
                            replace hx1060_0 := (HB.out.cell (World.block_lt_of_cell? w _ hx1060_0)).trans hx1060_0
                            replace hx1060_1 := (HB.out.cell (World.block_lt_of_cell? w _ hx1060_1)).trans hx1060_1
                            replace hx1060_2 := (HB.out.cell (World.block_lt_of_cell? w _ hx1060_2)).trans hx1060_2
                            have HR1060_2 := Aside0.mk hi1060_2
                            have HC1060_2 := Aside0.mk hl1060_2
                            clear hi1060_2 hl1060_2
                            replace p1060 := eq_true p1060
                            replace q1060 := eq_true q1060
                            go_wp2
                            repeat (go_quiet (fail); try go_wp2)
                            go_roundg k1
                            case measure => have := HK1.out; omega
                            case rel => exact ⟨(x6_1), (wrap64 (x26_1 + 1)), (by first | rfl | (simp; done) | (simp [*]; done)), (by first | rfl | (simp; done) | (simp [*]; done)), H', ⟨by have := HK1.out; omega⟩, ⟨by (with_reducible repeat (first | apply Kd.R_alloc | apply Kd.R_drewN | apply Kd.R_drew)); exact HO_24.out⟩, ⟨by (with_reducible repeat (first | refine blk_drewN ?_ _ | refine blk_drew ?_ | refine blk_alloc ?_ _)); exact BK1050.out⟩, ⟨by repeat (first | (with_reducible first | exact HB.out | apply below_alloc | apply pw_below_drewN | apply below_drew1 | refine below_set ?_ GE1050.out) | exact HB.out)⟩⟩
                        · rw [if_neg c32] at H
                          exact absurd H (by simp)
                      · rw [if_neg c31] at H
                        exact absurd H (by simp)
                    · rw [if_neg c30] at H
                      exact absurd H (by simp)
                  · rw [if_neg c29] at H
                    exact absurd H (by simp)
              · rw [if_neg c27] at H
                exact absurd H (by simp)
            · rw [if_neg c26] at H
              exact absurd H (by simp)
          · rw [if_neg c25] at H
            have c25b0 : decide (x26_1 < (t1055.length : Int)) = false := decide_eq_false c25
            clear c25
            by_cases c36 : x6_1 < 0
            · rw [if_pos c36] at H
              have c36b0 : decide (x6_1 < 0) = true := decide_eq_true c36
              clear c36
              simp only [Option.some.injEq, Prod.mk.injEq] at H
              obtain ⟨rfl, rfl, rfl⟩ := H
              go_wp2
              repeat (go_quiet (fail); try go_wp2)
              go_ret3
              exact ⟨by first | rfl | (simp [errW_none, errW_some] <;> rfl) | (simp [*, errW_none, errW_some] <;> rfl), by repeat (first | (with_reducible first | exact HB.out | apply below_alloc | apply pw_below_drewN | apply below_drew1 | refine below_set ?_ GE1050.out) | exact HB.out)⟩
            · rw [if_neg c36] at H
              have c36b0 : decide (x6_1 < 0) = false := decide_eq_false c36
              clear c36
              simp only [Option.some.injEq, Prod.mk.injEq] at H
              obtain ⟨rfl, rfl, rfl⟩ := H
              go_wp2
              repeat (go_quiet (fail); try go_wp2)
              go_ret3
              exact ⟨by first | rfl | (simp [errW_none, errW_some] <;> rfl) | (simp [*, errW_none, errW_some] <;> rfl), by repeat (first | (with_reducible first | exact HB.out | apply below_alloc | apply pw_below_drewN | apply below_drew1 | refine below_set ?_ GE1050.out) | exact HB.out)⟩
  · replace c3 := Bool.eq_false_iff.mpr c3
    subst c3
    have H1 : (some (0, 0, false)) = some (r1, r2, r3) := by rw [if_neg (show ¬ (false = true) by decide)] at H; exact H
    clear H
    have H := H1
    clear H1
    simp only [Option.some.injEq, Prod.mk.injEq] at H
    obtain ⟨rfl, rfl, rfl⟩ := H
    go_enter Try.func37, Try.ntmps37
    go_wp2_with (first | ((with_reducible refine gate_dst (N := 1) rfl ?_); refine box_event ?hg (N := 1) ?hd (cs := #[.slice A0_0 l0_0.length c0_0]) (t := 63) ?hr ?_; (case hd => rfl); (case hg => rfl); (case hr => first | (go_simp; done) | (go_simp; rfl)); intro gb1050 hg w37 hbox hb; have n0_ := Aside0.mk (below_step (by repeat (first | (with_reducible first | exact HB.out | apply below_alloc | apply pw_below_drewN | apply below_drew1) | exact HB.out)) hb); have n1_ := Aside0.mk (hbox); have n2_ := Aside0.mk ((by rw [hg]; exact (below_size (by repeat (first | (with_reducible first | exact HB.out | apply below_alloc | apply pw_below_drewN | apply below_drew1) | exact HB.out))) : w.heap.size ≤ gb1050)); have n3_ := Aside0.mk ((by rw [hg]; exact (below_size (by repeat (first | (with_reducible first | exact HB.out | apply below_alloc | apply pw_below_drewN | apply below_drew1) | exact HB.out))) : w.heap.size ≤ gb1050)); clear HB; have HB := n0_; have BK1050 := n1_; have GW1050 := n2_; have GE1050 := n3_; clear n0_ n1_ n2_ n3_; clear hb hbox hg; have hcz38_0 : w37.cell? ⟨gb1050, 0, none⟩ = some (.slice A0_0 l0_0.length c0_0) := (blk_cell BK1050.out 0).trans rfl; have hfz38_0 := blk_frozen BK1050.out 0) | (go_at_call 106; (with_reducible refine (impl_FlashOk.calls k _ _ l0_0 false _ ?side1 ?side2 A2.out).mono ?_); (case side1 => repeat (first | exact (Kd.C_below HR0_0.out HB.out) | (with_reducible refine Kd.C_alloc ?_ _) | (with_reducible refine Kd.C_drewN ?_ _) | (with_reducible refine Kd.C_drew ?_))); (case side2 => exact HC0_0.out); rintro e w39 ⟨rfl, hb⟩; have n0_ := Aside0.mk (blk_below (g := gb1050) (o := .cells #[.slice A0_0 l0_0.length c0_0] 63 (0, 0)) (by (with_reducible repeat (first | refine blk_drewN ?_ _ | refine blk_drew ?_ | refine blk_alloc ?_ _)); exact BK1050.out) hb); have n1_ := Aside0.mk (below_step (by repeat (first | (with_reducible first | exact HB.out | apply below_alloc | apply pw_below_drewN | apply below_drew1 | refine below_set ?_ GE1050.out) | exact HB.out)) hb); clear BK1050; clear HB; have BK1050 := n0_; have HB := n1_; clear n0_ n1_; (try clear hb); (try clear hb2); (try clear hk); (try clear hi)))
    repeat (go_quiet (first | ((with_reducible refine gate_dst (N := 1) rfl ?_); refine box_event ?hg (N := 1) ?hd (cs := #[.slice A0_0 l0_0.length c0_0]) (t := 63) ?hr ?_; (case hd => rfl); (case hg => rfl); (case hr => first | (go_simp; done) | (go_simp; rfl)); intro gb1050 hg w37 hbox hb; have n0_ := Aside0.mk (below_step (by repeat (first | (with_reducible first | exact HB.out | apply below_alloc | apply pw_below_drewN | apply below_drew1) | exact HB.out)) hb); have n1_ := Aside0.mk (hbox); have n2_ := Aside0.mk ((by rw [hg]; exact (below_size (by repeat (first | (with_reducible first | exact HB.out | apply below_alloc | apply pw_below_drewN | apply below_drew1) | exact HB.out))) : w.heap.size ≤ gb1050)); have n3_ := Aside0.mk ((by rw [hg]; exact (below_size (by repeat (first | (with_reducible first | exact HB.out | apply below_alloc | apply pw_below_drewN | apply below_drew1) | exact HB.out))) : w.heap.size ≤ gb1050)); clear HB; have HB := n0_; have BK1050 := n1_; have GW1050 := n2_; have GE1050 := n3_; clear n0_ n1_ n2_ n3_; clear hb hbox hg; have hcz38_0 : w37.cell? ⟨gb1050, 0, none⟩ = some (.slice A0_0 l0_0.length c0_0) := (blk_cell BK1050.out 0).trans rfl; have hfz38_0 := blk_frozen BK1050.out 0) | (go_at_call 106; (with_reducible refine (impl_FlashOk.calls k _ _ l0_0 false _ ?side1 ?side2 A2.out).mono ?_); (case side1 => repeat (first | exact (Kd.C_below HR0_0.out HB.out) | (with_reducible refine Kd.C_alloc ?_ _) | (with_reducible refine Kd.C_drewN ?_ _) | (with_reducible refine Kd.C_drew ?_))); (case side2 => exact HC0_0.out); rintro e w39 ⟨rfl, hb⟩; have n0_ := Aside0.mk (blk_below (g := gb1050) (o := .cells #[.slice A0_0 l0_0.length c0_0] 63 (0, 0)) (by (with_reducible repeat (first | refine blk_drewN ?_ _ | refine blk_drew ?_ | refine blk_alloc ?_ _)); exact BK1050.out) hb); have n1_ := Aside0.mk (below_step (by repeat (first | (with_reducible first | exact HB.out | apply below_alloc | apply pw_below_drewN | apply below_drew1 | refine below_set ?_ GE1050.out) | exact HB.out)) hb); clear BK1050; clear HB; have BK1050 := n0_; have HB := n1_; clear n0_ n1_; (try clear hb); (try clear hb2); (try clear hk); (try clear hi))); try go_wp2_with (first | ((with_reducible refine gate_dst (N := 1) rfl ?_); refine box_event ?hg (N := 1) ?hd (cs := #[.slice A0_0 l0_0.length c0_0]) (t := 63) ?hr ?_; (case hd => rfl); (case hg => rfl); (case hr => first | (go_simp; done) | (go_simp; rfl)); intro gb1050 hg w37 hbox hb; have n0_ := Aside0.mk (below_step (by repeat (first | (with_reducible first | exact HB.out | apply below_alloc | apply pw_below_drewN | apply below_drew1) | exact HB.out)) hb); have n1_ := Aside0.mk (hbox); have n2_ := Aside0.mk ((by rw [hg]; exact (below_size (by repeat (first | (with_reducible first | exact HB.out | apply below_alloc | apply pw_below_drewN | apply below_drew1) | exact HB.out))) : w.heap.size ≤ gb1050)); have n3_ := Aside0.mk ((by rw [hg]; exact (below_size (by repeat (first | (with_reducible first | exact HB.out | apply below_alloc | apply pw_below_drewN | apply below_drew1) | exact HB.out))) : w.heap.size ≤ gb1050)); clear HB; have HB := n0_; have BK1050 := n1_; have GW1050 := n2_; have GE1050 := n3_; clear n0_ n1_ n2_ n3_; clear hb hbox hg; have hcz38_0 : w37.cell? ⟨gb1050, 0, none⟩ = some (.slice A0_0 l0_0.length c0_0) := (blk_cell BK1050.out 0).trans rfl; have hfz38_0 := blk_frozen BK1050.out 0) | (go_at_call 106; (with_reducible refine (impl_FlashOk.calls k _ _ l0_0 false _ ?side1 ?side2 A2.out).mono ?_); (case side1 => repeat (first | exact (Kd.C_below HR0_0.out HB.out) | (with_reducible refine Kd.C_alloc ?_ _) | (with_reducible refine Kd.C_drewN ?_ _) | (with_reducible refine Kd.C_drew ?_))); (case side2 => exact HC0_0.out); rintro e w39 ⟨rfl, hb⟩; have n0_ := Aside0.mk (blk_below (g := gb1050) (o := .cells #[.slice A0_0 l0_0.length c0_0] 63 (0, 0)) (by (with_reducible repeat (first | refine blk_drewN ?_ _ | refine blk_drew ?_ | refine blk_alloc ?_ _)); exact BK1050.out) hb); have n1_ := Aside0.mk (below_step (by repeat (first | (with_reducible first | exact HB.out | apply below_alloc | apply pw_below_drewN | apply below_drew1 | refine below_set ?_ GE1050.out) | exact HB.out)) hb); clear BK1050; clear HB; have BK1050 := n0_; have HB := n1_; clear n0_ n1_; (try clear hb); (try clear hb2); (try clear hk); (try clear hi))))
    go_ret3
    exact ⟨by first | rfl | (simp [errW_none, errW_some] <;> rfl) | (simp [*, errW_none, errW_some] <;> rfl), by repeat (first | (with_reducible first | exact HB.out | apply below_alloc | apply pw_below_drewN | apply below_drew1 | refine below_set ?_ GE1050.out) | exact HB.out)⟩

end Go.Proofs.Ytdolplcbokioaaa.PB

/- Functions of the translation as plain Lean functions, and for each that its call comes to just what its Lean function answers; its conditions stand in each theorem. Written by a program of this session. -/
namespace Go.Proofs.Ytdolplcbokioaaa.PB
open Go.RowKit Go.Proofs.YtdolplcbokioaaaW.PrintWords Go.Proofs.YtdolplcbokioaaaW.PrintLast Go.Proofs.YtdolplcbokioaaaW.PrintMore
attribute [local go_sem] max2_int min2_int max_two min_two max_three min_three max_four min_four   -- for this text's walks alone
set_option linter.unusedVariables false
set_option linter.unusedSimpArgs false

/-! ### laws_szLeaf: function 177 -/
def laws_szLeaf.f (a0_0 : Int) (a0_1 : ByteArray) (a1 : Int) : Option (Int) := if (wrap64 (a1 - (a0_1.size : Int))) < 0 then (some (-1)) else (some (wrap64 (a1 - (a0_1.size : Int))))
set_option maxHeartbeats 8000000 in
set_option maxRecDepth 100000 in
theorem laws_szLeaf.calls (a0_0 : Int) (a0_1 : ByteArray) (a1 : Int) (r : Int) (w : World) (h : laws_szLeaf.f a0_0 a0_1 a1 = some r) :
    Calls Try.prog 177 #[.agg #[.int .i64 a0_0, .string a0_1], .int .i64 a1] w fun e w' => e = .returned (.int .i64 r) ∧ Below w.heap.size w w' := by
  have hu213 := Try.underlying213
  have HB := Aside0.mk (Below.refl w.heap.size w)
  have H : (if (wrap64 (a1 - (a0_1.size : Int))) < 0 then (some (-1)) else (some (wrap64 (a1 - (a0_1.size : Int))))) = some r := h
  clear h
  by_cases c3 : (wrap64 (a1 - (a0_1.size : Int))) < 0
  · rw [if_pos c3] at H
    have c3b0 : decide ((wrap64 (a1 - (a0_1.size : Int))) < 0) = true := decide_eq_true c3
    clear c3
    obtain rfl := Option.some.inj H
    go_enter Try.func177, Try.ntmps177
    go_wp2_with (first | ((with_reducible refine gate_dst (N := 2) rfl ?_); refine box_event ?hg (N := 2) ?hd (cs := #[.int .i64 a0_0, .string a0_1]) (t := 213) ?hr ?_; (case hd => rfl); (case hg => rfl); (case hr => first | (go_simp; done) | (go_simp; rfl)); intro gb1458 hg w4 hbox hb; have n0_ := Aside0.mk (below_step (by repeat (first | (with_reducible first | exact HB.out | apply below_alloc | apply pw_below_drewN | apply below_drew1) | exact HB.out)) hb); have n1_ := Aside0.mk (hbox); have n2_ := Aside0.mk ((by rw [hg]; exact (below_size (by repeat (first | (with_reducible first | exact HB.out | apply below_alloc | apply pw_below_drewN | apply below_drew1) | exact HB.out))) : w.heap.size ≤ gb1458)); have n3_ := Aside0.mk ((by rw [hg]; exact (below_size (by repeat (first | (with_reducible first | exact HB.out | apply below_alloc | apply pw_below_drewN | apply below_drew1) | exact HB.out))) : w.heap.size ≤ gb1458)); clear HB; have HB := n0_; have BK1458 := n1_; have GW1458 := n2_; have GE1458 := n3_; clear n0_ n1_ n2_ n3_; clear hb hbox hg; have hcz5_0 : w4.cell? ⟨gb1458, 0, none⟩ = some (.int .i64 a0_0) := (blk_cell BK1458.out 0).trans rfl; have hcz5_1 : w4.cell? ⟨gb1458, 1, none⟩ = some (.string a0_1) := (blk_cell BK1458.out 1).trans rfl; have hfz5_0 := blk_frozen BK1458.out 0; have hfz5_1 := blk_frozen BK1458.out 1))
    go_ret
    exact ⟨by first | rfl | (simp [errW_none, errW_some] <;> rfl) | (simp [*, errW_none, errW_some] <;> rfl), by repeat (first | (with_reducible first | exact HB.out | apply below_alloc | apply pw_below_drewN | apply below_drew1 | refine below_set ?_ GE1458.out) | exact HB.out)⟩
  · rw [if_neg c3] at H
    have c3b0 : decide ((wrap64 (a1 - (a0_1.size : Int))) < 0) = false := decide_eq_false c3
    clear c3
    obtain rfl := Option.some.inj H
    go_enter Try.func177, Try.ntmps177
    go_wp2_with (first | ((with_reducible refine gate_dst (N := 2) rfl ?_); refine box_event ?hg (N := 2) ?hd (cs := #[.int .i64 a0_0, .string a0_1]) (t := 213) ?hr ?_; (case hd => rfl); (case hg => rfl); (case hr => first | (go_simp; done) | (go_simp; rfl)); intro gb1458 hg w6 hbox hb; have n0_ := Aside0.mk (below_step (by repeat (first | (with_reducible first | exact HB.out | apply below_alloc | apply pw_below_drewN | apply below_drew1) | exact HB.out)) hb); have n1_ := Aside0.mk (hbox); have n2_ := Aside0.mk ((by rw [hg]; exact (below_size (by repeat (first | (with_reducible first | exact HB.out | apply below_alloc | apply pw_below_drewN | apply below_drew1) | exact HB.out))) : w.heap.size ≤ gb1458)); have n3_ := Aside0.mk ((by rw [hg]; exact (below_size (by repeat (first | (with_reducible first | exact HB.out | apply below_alloc | apply pw_below_drewN | apply below_drew1) | exact HB.out))) : w.heap.size ≤ gb1458)); clear HB; have HB := n0_; have BK1458 := n1_; have GW1458 := n2_; have GE1458 := n3_; clear n0_ n1_ n2_ n3_; clear hb hbox hg; have hcz7_0 : w6.cell? ⟨gb1458, 0, none⟩ = some (.int .i64 a0_0) := (blk_cell BK1458.out 0).trans rfl; have hcz7_1 : w6.cell? ⟨gb1458, 1, none⟩ = some (.string a0_1) := (blk_cell BK1458.out 1).trans rfl; have hfz7_0 := blk_frozen BK1458.out 0; have hfz7_1 := blk_frozen BK1458.out 1))
    go_ret
    exact ⟨by first | rfl | (simp [errW_none, errW_some] <;> rfl) | (simp [*, errW_none, errW_some] <;> rfl), by repeat (first | (with_reducible first | exact HB.out | apply below_alloc | apply pw_below_drewN | apply below_drew1 | refine below_set ?_ GE1458.out) | exact HB.out)⟩

end Go.Proofs.Ytdolplcbokioaaa.PB

/- Functions of the translation as plain Lean functions, and for each that its call comes to just what its Lean function answers; its conditions stand in each theorem. Written by a program of this session. -/
namespace Go.Proofs.Ytdolplcbokioaaa.PB
open Go.RowKit Go.Proofs.YtdolplcbokioaaaW.PrintWords Go.Proofs.YtdolplcbokioaaaW.PrintLast Go.Proofs.YtdolplcbokioaaaW.PrintMore
attribute [local go_sem] max2_int min2_int max_two min_two max_three min_three max_four min_four   -- for this text's walks alone
set_option linter.unusedVariables false
set_option linter.unusedSimpArgs false

/-! ### laws_szLeafS: function 163 -/
def laws_szLeafS.l0 : Nat → List (S213) → Int → Int → Option (Int)
  | 0, _, _, _ => none
  | k + 1, x0, x1, x5 => if x5 < (x0.length : Int) then (if 0 ≤ x5 then ((laws_szLeaf.f ((rd_T213 x0 x5).f0) ((rd_T213 x0 x5).f1) x1).bind fun t1460 => (if t1460 < 0 then (some (-1)) else (laws_szLeafS.l0 k x0 t1460 (wrap64 (x5 + 1))))) else (none)) else (some x1)
def laws_szLeafS.f (k : Nat) (l0 : List (S213)) (a1 : Int) : Option (Int) := if (wrap64 (a1 - (l0.length : Int))) < 0 then (some (-1)) else (laws_szLeafS.l0 k l0 (wrap64 (a1 - (l0.length : Int))) 0)
theorem laws_szLeafS.mono_l : ∀ k, (∀ y0 y1 y2, LeO (laws_szLeafS.l0 k y0 y1 y2) (laws_szLeafS.l0 (k + 1) y0 y1 y2))
  | 0 => fun _ _ _ r h => by simp [laws_szLeafS.l0] at h
  | k + 1 => by
    have ih0 := laws_szLeafS.mono_l k
    · intro y0 y1 y2
      unfold laws_szLeafS.l0
      repeat' first
      | (with_reducible exact ih0 _ _ _)
      | (with_reducible exact LeO.refl _)
      | (with_reducible exact LeO.none _)
      | (with_reducible refine LeO.ite ?_ ?_)
      | (with_reducible refine LeO.bind ?_ (fun _ => ?_))
      | exact ih0 _ _ _
      | exact LeO.none _
      | refine LeO.ite ?_ ?_
      | refine LeO.bind ?_ (fun _ => ?_)
theorem laws_szLeafS.mono : ∀ a0 a1 k, LeO (laws_szLeafS.f k a0 a1) (laws_szLeafS.f (k + 1) a0 a1) := by
  intro a0 a1 k
  have ih0 := laws_szLeafS.mono_l k
  unfold laws_szLeafS.f
  repeat' first
      | (with_reducible exact ih0 _ _ _)
      | (with_reducible exact LeO.refl _)
      | (with_reducible exact LeO.none _)
      | (with_reducible refine LeO.ite ?_ ?_)
      | (with_reducible refine LeO.bind ?_ (fun _ => ?_))
      | exact ih0 _ _ _
      | exact LeO.none _
      | refine LeO.ite ?_ ?_
      | refine LeO.bind ?_ (fun _ => ?_)
set_option maxHeartbeats 8000000 in
set_option maxRecDepth 100000 in
theorem laws_szLeafS.calls (k : Nat) (A0 : Option Addr) (c0 : Nat) (l0 : List (S213)) (a1 : Int) (r : Int) (w : World) (hr0 : Kd.C k213 w A0 l0.length l0) (hc0 : l0.length ≤ c0) (h : laws_szLeafS.f k l0 a1 = some r) :
    Calls Try.prog 163 #[.slice A0 l0.length c0, .int .i64 a1] w fun e w' => e = .returned (.int .i64 r) ∧ Below w.heap.size w w' := by
  have hu213 := Try.underlying213
  have HR0 := Aside0.mk hr0
  have HC0 := Aside0.mk hc0
  clear hr0 hc0
  have HB := Aside0.mk (Below.refl w.heap.size w)
  have H : (if (wrap64 (a1 - (l0.length : Int))) < 0 then (some (-1)) else (laws_szLeafS.l0 k l0 (wrap64 (a1 - (l0.length : Int))) 0)) = some r := h
  clear h
  by_cases c3 : (wrap64 (a1 - (l0.length : Int))) < 0
  · rw [if_pos c3] at H
    have c3b0 : decide ((wrap64 (a1 - (l0.length : Int))) < 0) = true := decide_eq_true c3
    clear c3
    obtain rfl := Option.some.inj H
    go_enter Try.func163, Try.ntmps163
    go_wp2
    go_ret
    exact ⟨by first | rfl | (simp [errW_none, errW_some] <;> rfl) | (simp [*, errW_none, errW_some] <;> rfl), by repeat (first | (with_reducible first | exact HB.out | apply below_alloc | apply pw_below_drewN | apply below_drew1) | exact HB.out)⟩
  · rw [if_neg c3] at H
    have c3b0 : decide ((wrap64 (a1 - (l0.length : Int))) < 0) = false := decide_eq_false c3
    clear c3
    have H' := Aside0.mk H
    clear H
    go_enter Try.func163, Try.ntmps163
    go_wp2
    go_loopg [1, 5] k (fun kq v1 v5 w' => ∃ (x1_1 : Int) (x5_1 : Int), v1 = .int .i64 x1_1 ∧ v5 = .int .i64 x5_1 ∧ Aside0 (laws_szLeafS.l0 kq l0 x1_1 x5_1 = some r) ∧ Aside0 (kq ≤ k) ∧ Aside0 (Below w.heap.size w w'))
    case atStart => exact ⟨(wrap64 (a1 - (l0.length : Int))), (0), (by first | rfl | (simp; done) | (simp [*]; done)), (by first | rfl | (simp; done) | (simp [*]; done)), H', ⟨Nat.le_refl _⟩, ⟨by repeat (first | (with_reducible first | exact HB.out | apply below_alloc | apply pw_below_drewN | apply below_drew1) | exact HB.out)⟩⟩
    case round =>
      clear H'
      try clear c1
      try clear p2
      try clear c3
      try clear c3b0
      obtain ⟨x1_1, x5_1, rfl, rfl, HA, HK1, HB⟩ := hrel
      cases gk with
      | zero => exact absurd HA.out (by simp [laws_szLeafS.l0])
      | succ k1 =>
        have H := HA.out
        clear HA
        simp only [laws_szLeafS.l0] at H
        by_cases c4 : x5_1 < (l0.length : Int)
        · rw [if_pos c4] at H
          have c4b0 : decide (x5_1 < (l0.length : Int)) = true := decide_eq_true c4
          clear c4
          by_cases c5 : 0 ≤ x5_1
          · rw [if_pos c5] at H
            have c5b0 : decide (0 ≤ x5_1) = true := decide_eq_true c5
            clear c5
            replace H := Option.bind_eq_some_iff.mp H
            obtain ⟨t1460, A60, H⟩ := H
            replace H : (if t1460 < 0 then (some (-1)) else (laws_szLeafS.l0 k1 l0 t1460 (wrap64 (x5_1 + 1)))) = some r := H
            have A6 := Aside0.mk A60
            clear A60
            by_cases c7 : t1460 < 0
            · rw [if_pos c7] at H
              have c7b0 : decide (t1460 < 0) = true := decide_eq_true c7
              clear c7
              obtain rfl := Option.some.inj H
              have p1459 : 0 ≤ (x5_1 : Int) := of_decide_eq_true (by first | (with_reducible assumption) | assumption)
              have q1459 : x5_1 < (l0.length : Int) := of_decide_eq_true (by first | (with_reducible assumption) | assumption)
              obtain ⟨ad1459, e1459, hx1459_0, hx1459_1⟩ := at_T213 HR0.out x5_1 p1459 q1459
              cases e1459
              replace hx1459_0 := (HB.out.cell (World.block_lt_of_cell? w _ hx1459_0)).trans hx1459_0
              replace hx1459_1 := (HB.out.cell (World.block_lt_of_cell? w _ hx1459_1)).trans hx1459_1
              replace p1459 := eq_true p1459
              replace q1459 := eq_true q1459
              go_wp2_with (first | ((with_reducible refine gate_callee (f := 177) rfl ?_); refine goesL_ (some 23) rfl rfl Try.func177 (by kernel_rfl) rfl #[.agg #[.int .i64 ((rd_T213 l0 x5_1).f0), .string ((rd_T213 l0 x5_1).f1)], .int .i64 x1_1] rfl (by (try simp only [List.map_toArray, List.map_cons, List.map_nil]); first | done | rfl | (simp only [List.length_drop, List.length_take]; rfl)) ?_; (with_reducible refine (laws_szLeaf.calls ((rd_T213 l0 x5_1).f0) ((rd_T213 l0 x5_1).f1) x1_1 t1460 _ A6.out).mono ?_); rintro e w8 ⟨rfl, hb⟩; refine ⟨_, rfl, ?_⟩; have n0_ := Aside0.mk (below_step (by repeat (first | (with_reducible first | exact HB.out | apply below_alloc | apply pw_below_drewN | apply below_drew1) | exact HB.out)) hb); clear HB; have HB := n0_; clear n0_; (try clear hb); (try clear hb2); (try clear hk); (try clear hi)))
              go_ret
              exact ⟨by first | rfl | (simp [errW_none, errW_some] <;> rfl) | (simp [*, errW_none, errW_some] <;> rfl), by repeat (first | (with_reducible first | exact HB.out | apply below_alloc | apply pw_below_drewN | apply below_drew1) | exact HB.out)⟩
            · rw [if_neg c7] at H
              have c7b0 : decide (t1460 < 0) = false := decide_eq_false c7
              clear c7
              have H' := Aside0.mk H
              clear H
              have p1459 : 0 ≤ (x5_1 : Int) := of_decide_eq_true (by first | (with_reducible assumption) | assumption)
              have q1459 : x5_1 < (l0.length : Int) := of_decide_eq_true (by first | (with_reducible assumption) | assumption)
              obtain ⟨ad1459, e1459, hx1459_0, hx1459_1⟩ := at_T213 HR0.out x5_1 p1459 q1459
              cases e1459
              replace hx1459_0 := (HB.out.cell (World.block_lt_of_cell? w _ hx1459_0)).trans hx1459_0
              replace hx1459_1 := (HB.out.cell (World.block_lt_of_cell? w _ hx1459_1)).trans hx1459_1
              replace p1459 := eq_true p1459
              replace q1459 := eq_true q1459
              go_wp2_with (first | ((with_reducible refine gate_callee (f := 177) rfl ?_); refine goesL_ (some 23) rfl rfl Try.func177 (by kernel_rfl) rfl #[.agg #[.int .i64 ((rd_T213 l0 x5_1).f0), .string ((rd_T213 l0 x5_1).f1)], .int .i64 x1_1] rfl (by (try simp only [List.map_toArray, List.map_cons, List.map_nil]); first | done | rfl | (simp only [List.length_drop, List.length_take]; rfl)) ?_; (with_reducible refine (laws_szLeaf.calls ((rd_T213 l0 x5_1).f0) ((rd_T213 l0 x5_1).f1) x1_1 t1460 _ A6.out).mono ?_); rintro e w9 ⟨rfl, hb⟩; refine ⟨_, rfl, ?_⟩; have n0_ := Aside0.mk (below_step (by repeat (first | (with_reducible first | exact HB.out | apply below_alloc | apply pw_below_drewN | apply below_drew1) | exact HB.out)) hb); clear HB; have HB := n0_; clear n0_; (try clear hb); (try clear hb2); (try clear hk); (try clear hi)))
              go_roundg k1
              case measure => have := HK1.out; omega
              case rel => exact ⟨(t1460), (wrap64 (x5_1 + 1)), (by first | rfl | (simp; done) | (simp [*]; done)), (by first | rfl | (simp; done) | (simp [*]; done)), H', ⟨by have := HK1.out; omega⟩, ⟨by repeat (first | (with_reducible first | exact HB.out | apply below_alloc | apply pw_below_drewN | apply below_drew1) | exact HB.out)⟩⟩
          · rw [if_neg c5] at H
            exact absurd H (by simp)
        · rw [if_neg c4] at H
          have c4b0 : decide (x5_1 < (l0.length : Int)) = false := decide_eq_false c4
          clear c4
          obtain rfl := Option.some.inj H
          go_wp2
          go_ret
          exact ⟨by first | rfl | (simp [errW_none, errW_some] <;> rfl) | (simp [*, errW_none, errW_some] <;> rfl), by repeat (first | (with_reducible first | exact HB.out | apply below_alloc | apply pw_below_drewN | apply below_drew1) | exact HB.out)⟩

end Go.Proofs.Ytdolplcbokioaaa.PB

/- Functions of the translation as plain Lean functions, and for each that its call comes to just what its Lean function answers; its conditions stand in each theorem. Written by a program of this session. -/
namespace Go.Proofs.Ytdolplcbokioaaa.PB
open Go.RowKit Go.Proofs.YtdolplcbokioaaaW.PrintWords Go.Proofs.YtdolplcbokioaaaW.PrintLast Go.Proofs.YtdolplcbokioaaaW.PrintMore
attribute [local go_sem] max2_int min2_int max_two min_two max_three min_three max_four min_four   -- for this text's walks alone
set_option linter.unusedVariables false
set_option linter.unusedSimpArgs false

/-! ### laws_szBlock: function 157 -/
def laws_szBlock.f (k : Nat) (a0_0 : Bool) (a0_1 : Int) (l0_2 : List (S213)) (a1 : Int) : Option (Int) := (laws_szLeafS.f k l0_2 a1).bind fun t1462 => (if t1462 < 0 then (some (-1)) else (some t1462))
theorem laws_szBlock.mono : ∀ a0 a1 a2 a3 k, LeO (laws_szBlock.f k a0 a1 a2 a3) (laws_szBlock.f (k + 1) a0 a1 a2 a3) := by
  intro a0 a1 a2 a3 k
  unfold laws_szBlock.f
  repeat' first
      | (with_reducible exact laws_szLeafS.mono _ _ _)
      | (with_reducible exact LeO.refl _)
      | (with_reducible exact LeO.none _)
      | (with_reducible refine LeO.ite ?_ ?_)
      | (with_reducible refine LeO.bind ?_ (fun _ => ?_))
      | exact laws_szLeafS.mono _ _ _
      | exact LeO.none _
      | refine LeO.ite ?_ ?_
      | refine LeO.bind ?_ (fun _ => ?_)
set_option maxHeartbeats 8000000 in
set_option maxRecDepth 100000 in
theorem laws_szBlock.calls (k : Nat) (a0_0 : Bool) (a0_1 : Int) (A0_2 : Option Addr) (c0_2 : Nat) (l0_2 : List (S213)) (a1 : Int) (r : Int) (w : World) (hr0_2 : Kd.C k213 w A0_2 l0_2.length l0_2) (hc0_2 : l0_2.length ≤ c0_2) (h : laws_szBlock.f k a0_0 a0_1 l0_2 a1 = some r) :
    Calls Try.prog 157 #[.agg #[.bool a0_0, .int .i64 a0_1, .slice A0_2 l0_2.length c0_2], .int .i64 a1] w fun e w' => e = .returned (.int .i64 r) ∧ Below w.heap.size w w' := by
  have hu191 := Try.underlying191
  have HR0_2 := Aside0.mk hr0_2
  have HC0_2 := Aside0.mk hc0_2
  clear hr0_2 hc0_2
  have HB := Aside0.mk (Below.refl w.heap.size w)
  have H : ((laws_szLeafS.f k l0_2 a1).bind fun t1462 => (if t1462 < 0 then (some (-1)) else (some t1462))) = some r := h
  clear h
  replace H := Option.bind_eq_some_iff.mp H
  obtain ⟨t1462, A30, H⟩ := H
  replace H : (if t1462 < 0 then (some (-1)) else (some t1462)) = some r := H
  have A3 := Aside0.mk A30
  clear A30
  by_cases c4 : t1462 < 0
  · rw [if_pos c4] at H
    have c4b0 : decide (t1462 < 0) = true := decide_eq_true c4
    clear c4
    obtain rfl := Option.some.inj H
    go_enter Try.func157, Try.ntmps157
    go_wp2_with (first | ((with_reducible refine gate_dst (N := 2) rfl ?_); refine box_event ?hg (N := 2) ?hd (cs := #[.bool a0_0, .int .i64 a0_1, .slice A0_2 l0_2.length c0_2]) (t := 191) ?hr ?_; (case hd => rfl); (case hg => rfl); (case hr => first | (go_simp; done) | (go_simp; rfl)); intro gb1461 hg w5 hbox hb; have n0_ := Aside0.mk (below_step (by repeat (first | (with_reducible first | exact HB.out | apply below_alloc | apply pw_below_drewN | apply below_drew1) | exact HB.out)) hb); have n1_ := Aside0.mk (hbox); have n2_ := Aside0.mk ((by rw [hg]; exact (below_size (by repeat (first | (with_reducible first | exact HB.out | apply below_alloc | apply pw_below_drewN | apply below_drew1) | exact HB.out))) : w.heap.size ≤ gb1461)); have n3_ := Aside0.mk ((by rw [hg]; exact (below_size (by repeat (first | (with_reducible first | exact HB.out | apply below_alloc | apply pw_below_drewN | apply below_drew1) | exact HB.out))) : w.heap.size ≤ gb1461)); clear HB; have HB := n0_; have BK1461 := n1_; have GW1461 := n2_; have GE1461 := n3_; clear n0_ n1_ n2_ n3_; clear hb hbox hg; have hcz6_0 : w5.cell? ⟨gb1461, 0, none⟩ = some (.bool a0_0) := (blk_cell BK1461.out 0).trans rfl; have hcz6_1 : w5.cell? ⟨gb1461, 1, none⟩ = some (.int .i64 a0_1) := (blk_cell BK1461.out 1).trans rfl; have hcz6_2 : w5.cell? ⟨gb1461, 2, none⟩ = some (.slice A0_2 l0_2.length c0_2) := (blk_cell BK1461.out 2).trans rfl; have hfz6_0 := blk_frozen BK1461.out 0; have hfz6_1 := blk_frozen BK1461.out 1; have hfz6_2 := blk_frozen BK1461.out 2) | ((with_reducible refine gate_callee (f := 163) rfl ?_); refine goesL_ (some 8) rfl rfl Try.func163 (by kernel_rfl) rfl #[.slice A0_2 l0_2.length c0_2, .int .i64 a1] rfl (by (try simp only [List.map_toArray, List.map_cons, List.map_nil]); first | done | rfl | (simp only [List.length_drop, List.length_take]; rfl)) ?_; (with_reducible refine (laws_szLeafS.calls k _ _ l0_2 a1 t1462 _ ?side1 ?side2 A3.out).mono ?_); (case side1 => repeat (first | exact (Kd.C_below HR0_2.out HB.out) | (with_reducible refine Kd.C_alloc ?_ _) | (with_reducible refine Kd.C_drewN ?_ _) | (with_reducible refine Kd.C_drew ?_))); (case side2 => exact HC0_2.out); rintro e w7 ⟨rfl, hb⟩; refine ⟨_, rfl, ?_⟩; have n0_ := Aside0.mk (blk_below (g := gb1461) (o := .cells #[.bool a0_0, .int .i64 a0_1, .slice A0_2 l0_2.length c0_2] 191 (0, 0)) (by (with_reducible repeat (first | refine blk_drewN ?_ _ | refine blk_drew ?_ | refine blk_alloc ?_ _)); exact BK1461.out) hb); have n1_ := Aside0.mk (below_step (by repeat (first | (with_reducible first | exact HB.out | apply below_alloc | apply pw_below_drewN | apply below_drew1 | refine below_set ?_ GE1461.out) | exact HB.out)) hb); clear BK1461; clear HB; have BK1461 := n0_; have HB := n1_; clear n0_ n1_; (try clear hb); (try clear hb2); (try clear hk); (try clear hi)))
    go_ret
    exact ⟨by first | rfl | (simp [errW_none, errW_some] <;> rfl) | (simp [*, errW_none, errW_some] <;> rfl), by repeat (first | (with_reducible first | exact HB.out | apply below_alloc | apply pw_below_drewN | apply below_drew1 | refine below_set ?_ GE1461.out) | exact HB.out)⟩
  · rw [if_neg c4] at H
    have c4b0 : decide (t1462 < 0) = false := decide_eq_false c4
    clear c4
    obtain rfl := Option.some.inj H
    go_enter Try.func157, Try.ntmps157
    go_wp2_with (first | ((with_reducible refine gate_dst (N := 2) rfl ?_); refine box_event ?hg (N := 2) ?hd (cs := #[.bool a0_0, .int .i64 a0_1, .slice A0_2 l0_2.length c0_2]) (t := 191) ?hr ?_; (case hd => rfl); (case hg => rfl); (case hr => first | (go_simp; done) | (go_simp; rfl)); intro gb1461 hg w8 hbox hb; have n0_ := Aside0.mk (below_step (by repeat (first | (with_reducible first | exact HB.out | apply below_alloc | apply pw_below_drewN | apply below_drew1) | exact HB.out)) hb); have n1_ := Aside0.mk (hbox); have n2_ := Aside0.mk ((by rw [hg]; exact (below_size (by repeat (first | (with_reducible first | exact HB.out | apply below_alloc | apply pw_below_drewN | apply below_drew1) | exact HB.out))) : w.heap.size ≤ gb1461)); have n3_ := Aside0.mk ((by rw [hg]; exact (below_size (by repeat (first | (with_reducible first | exact HB.out | apply below_alloc | apply pw_below_drewN | apply below_drew1) | exact HB.out))) : w.heap.size ≤ gb1461)); clear HB; have HB := n0_; have BK1461 := n1_; have GW1461 := n2_; have GE1461 := n3_; clear n0_ n1_ n2_ n3_; clear hb hbox hg; have hcz9_0 : w8.cell? ⟨gb1461, 0, none⟩ = some (.bool a0_0) := (blk_cell BK1461.out 0).trans rfl; have hcz9_1 : w8.cell? ⟨gb1461, 1, none⟩ = some (.int .i64 a0_1) := (blk_cell BK1461.out 1).trans rfl; have hcz9_2 : w8.cell? ⟨gb1461, 2, none⟩ = some (.slice A0_2 l0_2.length c0_2) := (blk_cell BK1461.out 2).trans rfl; have hfz9_0 := blk_frozen BK1461.out 0; have hfz9_1 := blk_frozen BK1461.out 1; have hfz9_2 := blk_frozen BK1461.out 2) | ((with_reducible refine gate_callee (f := 163) rfl ?_); refine goesL_ (some 8) rfl rfl Try.func163 (by kernel_rfl) rfl #[.slice A0_2 l0_2.length c0_2, .int .i64 a1] rfl (by (try simp only [List.map_toArray, List.map_cons, List.map_nil]); first | done | rfl | (simp only [List.length_drop, List.length_take]; rfl)) ?_; (with_reducible refine (laws_szLeafS.calls k _ _ l0_2 a1 t1462 _ ?side1 ?side2 A3.out).mono ?_); (case side1 => repeat (first | exact (Kd.C_below HR0_2.out HB.out) | (with_reducible refine Kd.C_alloc ?_ _) | (with_reducible refine Kd.C_drewN ?_ _) | (with_reducible refine Kd.C_drew ?_))); (case side2 => exact HC0_2.out); rintro e w10 ⟨rfl, hb⟩; refine ⟨_, rfl, ?_⟩; have n0_ := Aside0.mk (blk_below (g := gb1461) (o := .cells #[.bool a0_0, .int .i64 a0_1, .slice A0_2 l0_2.length c0_2] 191 (0, 0)) (by (with_reducible repeat (first | refine blk_drewN ?_ _ | refine blk_drew ?_ | refine blk_alloc ?_ _)); exact BK1461.out) hb); have n1_ := Aside0.mk (below_step (by repeat (first | (with_reducible first | exact HB.out | apply below_alloc | apply pw_below_drewN | apply below_drew1 | refine below_set ?_ GE1461.out) | exact HB.out)) hb); clear BK1461; clear HB; have BK1461 := n0_; have HB := n1_; clear n0_ n1_; (try clear hb); (try clear hb2); (try clear hk); (try clear hi)))
    go_ret
    exact ⟨by first | rfl | (simp [errW_none, errW_some] <;> rfl) | (simp [*, errW_none, errW_some] <;> rfl), by repeat (first | (with_reducible first | exact HB.out | apply below_alloc | apply pw_below_drewN | apply below_drew1 | refine below_set ?_ GE1461.out) | exact HB.out)⟩

end Go.Proofs.Ytdolplcbokioaaa.PB

/- Functions of the translation as plain Lean functions, and for each that its call comes to just what its Lean function answers; its conditions stand in each theorem. Written by a program of this session. -/
namespace Go.Proofs.Ytdolplcbokioaaa.PB
open Go.RowKit Go.Proofs.YtdolplcbokioaaaW.PrintWords Go.Proofs.YtdolplcbokioaaaW.PrintLast Go.Proofs.YtdolplcbokioaaaW.PrintMore
attribute [local go_sem] max2_int min2_int max_two min_two max_three min_three max_four min_four   -- for this text's walks alone
set_option linter.unusedVariables false
set_option linter.unusedSimpArgs false

/-! ### laws_szBlockS: function 129 -/
def laws_szBlockS.l0 : Nat → List (S191) → Int → Int → Option (Int)
  | 0, _, _, _ => none
  | k + 1, x0, x1, x5 => if x5 < (x0.length : Int) then (if 0 ≤ x5 then ((laws_szBlock.f k ((rd_T191 x0 x5).f0) ((rd_T191 x0 x5).f1) ((rd_T191 x0 x5).f2) x1).bind fun t1464 => (if t1464 < 0 then (some (-1)) else (laws_szBlockS.l0 k x0 t1464 (wrap64 (x5 + 1))))) else (none)) else (some x1)
def laws_szBlockS.f (k : Nat) (l0 : List (S191)) (a1 : Int) : Option (Int) := if (wrap64 (a1 - (l0.length : Int))) < 0 then (some (-1)) else (laws_szBlockS.l0 k l0 (wrap64 (a1 - (l0.length : Int))) 0)
theorem laws_szBlockS.mono_l : ∀ k, (∀ y0 y1 y2, LeO (laws_szBlockS.l0 k y0 y1 y2) (laws_szBlockS.l0 (k + 1) y0 y1 y2))
  | 0 => fun _ _ _ r h => by simp [laws_szBlockS.l0] at h
  | k + 1 => by
    have ih0 := laws_szBlockS.mono_l k
    · intro y0 y1 y2
      unfold laws_szBlockS.l0
      repeat' first
      | (with_reducible exact ih0 _ _ _)
      | (with_reducible exact laws_szBlock.mono _ _ _ _ _)
      | (with_reducible exact LeO.refl _)
      | (with_reducible exact LeO.none _)
      | (with_reducible refine LeO.ite ?_ ?_)
      | (with_reducible refine LeO.bind ?_ (fun _ => ?_))
      | exact ih0 _ _ _
      | exact laws_szBlock.mono _ _ _ _ _
      | exact LeO.none _
      | refine LeO.ite ?_ ?_
      | refine LeO.bind ?_ (fun _ => ?_)
theorem laws_szBlockS.mono : ∀ a0 a1 k, LeO (laws_szBlockS.f k a0 a1) (laws_szBlockS.f (k + 1) a0 a1) := by
  intro a0 a1 k
  have ih0 := laws_szBlockS.mono_l k
  unfold laws_szBlockS.f
  repeat' first
      | (with_reducible exact ih0 _ _ _)
      | (with_reducible exact laws_szBlock.mono _ _ _ _ _)
      | (with_reducible exact LeO.refl _)
      | (with_reducible exact LeO.none _)
      | (with_reducible refine LeO.ite ?_ ?_)
      | (with_reducible refine LeO.bind ?_ (fun _ => ?_))
      | exact ih0 _ _ _
      | exact laws_szBlock.mono _ _ _ _ _
      | exact LeO.none _
      | refine LeO.ite ?_ ?_
      | refine LeO.bind ?_ (fun _ => ?_)
set_option maxHeartbeats 8000000 in
set_option maxRecDepth 100000 in
theorem laws_szBlockS.calls (k : Nat) (A0 : Option Addr) (c0 : Nat) (l0 : List (S191)) (a1 : Int) (r : Int) (w : World) (hr0 : Kd.C k191 w A0 l0.length l0) (hc0 : l0.length ≤ c0) (h : laws_szBlockS.f k l0 a1 = some r) :
    Calls Try.prog 129 #[.slice A0 l0.length c0, .int .i64 a1] w fun e w' => e = .returned (.int .i64 r) ∧ Below w.heap.size w w' := by
  have hu191 := Try.underlying191
  have HR0 := Aside0.mk hr0
  have HC0 := Aside0.mk hc0
  clear hr0 hc0
  have HB := Aside0.mk (Below.refl w.heap.size w)
  have H : (if (wrap64 (a1 - (l0.length : Int))) < 0 then (some (-1)) else (laws_szBlockS.l0 k l0 (wrap64 (a1 - (l0.length : Int))) 0)) = some r := h
  clear h
  by_cases c3 : (wrap64 (a1 - (l0.length : Int))) < 0
  · rw [if_pos c3] at H
    have c3b0 : decide ((wrap64 (a1 - (l0.length : Int))) < 0) = true := decide_eq_true c3
    clear c3
    obtain rfl := Option.some.inj H
    go_enter Try.func129, Try.ntmps129
    go_wp2
    go_ret
    exact ⟨by first | rfl | (simp [errW_none, errW_some] <;> rfl) | (simp [*, errW_none, errW_some] <;> rfl), by repeat (first | (with_reducible first | exact HB.out | apply below_alloc | apply pw_below_drewN | apply below_drew1) | exact HB.out)⟩
  · rw [if_neg c3] at H
    have c3b0 : decide ((wrap64 (a1 - (l0.length : Int))) < 0) = false := decide_eq_false c3
    clear c3
    have H' := Aside0.mk H
    clear H
    go_enter Try.func129, Try.ntmps129
    go_wp2
    go_loopg [1, 5] k (fun kq v1 v5 w' => ∃ (x1_1 : Int) (x5_1 : Int), v1 = .int .i64 x1_1 ∧ v5 = .int .i64 x5_1 ∧ Aside0 (laws_szBlockS.l0 kq l0 x1_1 x5_1 = some r) ∧ Aside0 (kq ≤ k) ∧ Aside0 (Below w.heap.size w w'))
    case atStart => exact ⟨(wrap64 (a1 - (l0.length : Int))), (0), (by first | rfl | (simp; done) | (simp [*]; done)), (by first | rfl | (simp; done) | (simp [*]; done)), H', ⟨Nat.le_refl _⟩, ⟨by repeat (first | (with_reducible first | exact HB.out | apply below_alloc | apply pw_below_drewN | apply below_drew1) | exact HB.out)⟩⟩
    case round =>
      clear H'
      try clear c1
      try clear p2
      try clear c3
      try clear c3b0
      obtain ⟨x1_1, x5_1, rfl, rfl, HA, HK1, HB⟩ := hrel
      cases gk with
      | zero => exact absurd HA.out (by simp [laws_szBlockS.l0])
      | succ k1 =>
        have H := HA.out
        clear HA
        simp only [laws_szBlockS.l0] at H
        by_cases c4 : x5_1 < (l0.length : Int)
        · rw [if_pos c4] at H
          have c4b0 : decide (x5_1 < (l0.length : Int)) = true := decide_eq_true c4
          clear c4
          by_cases c5 : 0 ≤ x5_1
          · rw [if_pos c5] at H
            have c5b0 : decide (0 ≤ x5_1) = true := decide_eq_true c5
            clear c5
            replace H := Option.bind_eq_some_iff.mp H
            obtain ⟨t1464, A60, H⟩ := H
            replace H : (if t1464 < 0 then (some (-1)) else (laws_szBlockS.l0 k1 l0 t1464 (wrap64 (x5_1 + 1)))) = some r := H
            have A6 := Aside0.mk A60
            clear A60
            by_cases c7 : t1464 < 0
            · rw [if_pos c7] at H
              have c7b0 : decide (t1464 < 0) = true := decide_eq_true c7
              clear c7
              obtain rfl := Option.some.inj H
              have p1463 : 0 ≤ (x5_1 : Int) := of_decide_eq_true (by first | (with_reducible assumption) | assumption)
              have q1463 : x5_1 < (l0.length : Int) := of_decide_eq_true (by first | (with_reducible assumption) | assumption)
              obtain ⟨ad1463, A1463_2, c1463_2, e1463, hx1463_0, hx1463_1, hx1463_2, hl1463_2, hi1463_2⟩ := at_T191 HR0.out x5_1 p1463 q1463
              cases e1463
              replace hx1463_0 := (HB.out.cell (World.block_lt_of_cell? w _ hx1463_0)).trans hx1463_0
              replace hx1463_1 := (HB.out.cell (World.block_lt_of_cell? w _ hx1463_1)).trans hx1463_1
              replace hx1463_2 := (HB.out.cell (World.block_lt_of_cell? w _ hx1463_2)).trans hx1463_2
              have HR1463_2 := Aside0.mk hi1463_2
              have HC1463_2 := Aside0.mk hl1463_2
              clear hi1463_2 hl1463_2
              replace p1463 := eq_true p1463
              replace q1463 := eq_true q1463
              go_wp2_with (first | ((with_reducible refine gate_callee (f := 157) rfl ?_); refine goesL_ (some 23) rfl rfl Try.func157 (by kernel_rfl) rfl #[.agg #[.bool ((rd_T191 l0 x5_1).f0), .int .i64 ((rd_T191 l0 x5_1).f1), .slice A1463_2 ((rd_T191 l0 x5_1).f2).length c1463_2], .int .i64 x1_1] rfl (by (try simp only [List.map_toArray, List.map_cons, List.map_nil]); first | done | rfl | (simp only [List.length_drop, List.length_take]; rfl)) ?_; (with_reducible refine (laws_szBlock.calls k1 ((rd_T191 l0 x5_1).f0) ((rd_T191 l0 x5_1).f1) _ _ ((rd_T191 l0 x5_1).f2) x1_1 t1464 _ ?side1 ?side2 A6.out).mono ?_); (case side1 => repeat (first | exact (Kd.C_below HR1463_2.out HB.out) | (with_reducible refine Kd.C_alloc ?_ _) | (with_reducible refine Kd.C_drewN ?_ _) | (with_reducible refine Kd.C_drew ?_))); (case side2 => exact HC1463_2.out); rintro e w8 ⟨rfl, hb⟩; refine ⟨_, rfl, ?_⟩; have n0_ := Aside0.mk (below_step (by repeat (first | (with_reducible first | exact HB.out | apply below_alloc | apply pw_below_drewN | apply below_drew1) | exact HB.out)) hb); clear HB; have HB := n0_; clear n0_; (try clear hb); (try clear hb2); (try clear hk); (try clear hi)))
              go_ret
              exact ⟨by first | rfl | (simp [errW_none, errW_some] <;> rfl) | (simp [*, errW_none, errW_some] <;> rfl), by repeat (first | (with_reducible first | exact HB.out | apply below_alloc | apply pw_below_drewN | apply below_drew1) | exact HB.out)⟩
            · rw [if_neg c7] at H
              have c7b0 : decide (t1464 < 0) = false := decide_eq_false c7
              clear c7
              have H' := Aside0.mk H
              clear H
              have p1463 : 0 ≤ (x5_1 : Int) := of_decide_eq_true (by first | (with_reducible assumption) | assumption)
              have q1463 : x5_1 < (l0.length : Int) := of_decide_eq_true (by first | (with_reducible assumption) | assumption)
              obtain ⟨ad1463, A1463_2, c1463_2, e1463, hx1463_0, hx1463_1, hx1463_2, hl1463_2, hi1463_2⟩ := at_T191 HR0.out x5_1 p1463 q1463
              cases e1463
              replace hx1463_0 := (HB.out.cell (World.block_lt_of_cell? w _ hx1463_0)).trans hx1463_0
              replace hx1463_1 := (HB.out.cell (World.block_lt_of_cell? w _ hx1463_1)).trans hx1463_1
              replace hx1463_2 := (HB.out.cell (World.block_lt_of_cell? w _ hx1463_2)).trans hx1463_2
              have HR1463_2 := Aside0.mk hi1463_2
              have HC1463_2 := Aside0.mk hl1463_2
              clear hi1463_2 hl1463_2
              replace p1463 := eq_true p1463
              replace q1463 := eq_true q1463
              go_wp2_with (first | ((with_reducible refine gate_callee (f := 157) rfl ?_); refine goesL_ (some 23) rfl rfl Try.func157 (by kernel_rfl) rfl #[.agg #[.bool ((rd_T191 l0 x5_1).f0), .int .i64 ((rd_T191 l0 x5_1).f1), .slice A1463_2 ((rd_T191 l0 x5_1).f2).length c1463_2], .int .i64 x1_1] rfl (by (try simp only [List.map_toArray, List.map_cons, List.map_nil]); first | done | rfl | (simp only [List.length_drop, List.length_take]; rfl)) ?_; (with_reducible refine (laws_szBlock.calls k1 ((rd_T191 l0 x5_1).f0) ((rd_T191 l0 x5_1).f1) _ _ ((rd_T191 l0 x5_1).f2) x1_1 t1464 _ ?side1 ?side2 A6.out).mono ?_); (case side1 => repeat (first | exact (Kd.C_below HR1463_2.out HB.out) | (with_reducible refine Kd.C_alloc ?_ _) | (with_reducible refine Kd.C_drewN ?_ _) | (with_reducible refine Kd.C_drew ?_))); (case side2 => exact HC1463_2.out); rintro e w9 ⟨rfl, hb⟩; refine ⟨_, rfl, ?_⟩; have n0_ := Aside0.mk (below_step (by repeat (first | (with_reducible first | exact HB.out | apply below_alloc | apply pw_below_drewN | apply below_drew1) | exact HB.out)) hb); clear HB; have HB := n0_; clear n0_; (try clear hb); (try clear hb2); (try clear hk); (try clear hi)))
              go_roundg k1
              case measure => have := HK1.out; omega
              case rel => exact ⟨(t1464), (wrap64 (x5_1 + 1)), (by first | rfl | (simp; done) | (simp [*]; done)), (by first | rfl | (simp; done) | (simp [*]; done)), H', ⟨by have := HK1.out; omega⟩, ⟨by repeat (first | (with_reducible first | exact HB.out | apply below_alloc | apply pw_below_drewN | apply below_drew1) | exact HB.out)⟩⟩
          · rw [if_neg c5] at H
            exact absurd H (by simp)
        · rw [if_neg c4] at H
          have c4b0 : decide (x5_1 < (l0.length : Int)) = false := decide_eq_false c4
          clear c4
          obtain rfl := Option.some.inj H
          go_wp2
          go_ret
          exact ⟨by first | rfl | (simp [errW_none, errW_some] <;> rfl) | (simp [*, errW_none, errW_some] <;> rfl), by repeat (first | (with_reducible first | exact HB.out | apply below_alloc | apply pw_below_drewN | apply below_drew1) | exact HB.out)⟩

end Go.Proofs.Ytdolplcbokioaaa.PB

/- Functions of the translation as plain Lean functions, and for each that its call comes to just what its Lean function answers; its conditions stand in each theorem. Written by a program of this session. -/
namespace Go.Proofs.Ytdolplcbokioaaa.PB
open Go.RowKit Go.Proofs.YtdolplcbokioaaaW.PrintWords Go.Proofs.YtdolplcbokioaaaW.PrintLast Go.Proofs.YtdolplcbokioaaaW.PrintMore
attribute [local go_sem] max2_int min2_int max_two min_two max_three min_three max_four min_four   -- for this text's walks alone
set_option linter.unusedVariables false
set_option linter.unusedSimpArgs false

/-! ### laws_szFlash: function 68 -/
def laws_szFlash.f (k : Nat) (l0_0 : List (S191)) (a1 : Int) : Option (Int) := (laws_szBlockS.f k l0_0 a1).bind fun t1466 => (if t1466 < 0 then (some (-1)) else (some t1466))
theorem laws_szFlash.mono : ∀ a0 a1 k, LeO (laws_szFlash.f k a0 a1) (laws_szFlash.f (k + 1) a0 a1) := by
  intro a0 a1 k
  unfold laws_szFlash.f
  repeat' first
      | (with_reducible exact laws_szBlockS.mono _ _ _)
      | (with_reducible exact LeO.refl _)
      | (with_reducible exact LeO.none _)
      | (with_reducible refine LeO.ite ?_ ?_)
      | (with_reducible refine LeO.bind ?_ (fun _ => ?_))
      | exact laws_szBlockS.mono _ _ _
      | exact LeO.none _
      | refine LeO.ite ?_ ?_
      | refine LeO.bind ?_ (fun _ => ?_)
set_option maxHeartbeats 8000000 in
set_option maxRecDepth 100000 in
theorem laws_szFlash.calls (k : Nat) (A0_0 : Option Addr) (c0_0 : Nat) (l0_0 : List (S191)) (a1 : Int) (r : Int) (w : World) (hr0_0 : Kd.C k191 w A0_0 l0_0.length l0_0) (hc0_0 : l0_0.length ≤ c0_0) (h : laws_szFlash.f k l0_0 a1 = some r) :
    Calls Try.prog 68 #[.agg #[.slice A0_0 l0_0.length c0_0], .int .i64 a1] w fun e w' => e = .returned (.int .i64 r) ∧ Below w.heap.size w w' := by
  have hu108 := Try.underlying108
  have HR0_0 := Aside0.mk hr0_0
  have HC0_0 := Aside0.mk hc0_0
  clear hr0_0 hc0_0
  have HB := Aside0.mk (Below.refl w.heap.size w)
  have H : ((laws_szBlockS.f k l0_0 a1).bind fun t1466 => (if t1466 < 0 then (some (-1)) else (some t1466))) = some r := h
  clear h
  replace H := Option.bind_eq_some_iff.mp H
  obtain ⟨t1466, A30, H⟩ := H
  replace H : (if t1466 < 0 then (some (-1)) else (some t1466)) = some r := H
  have A3 := Aside0.mk A30
  clear A30
  by_cases c4 : t1466 < 0
  · rw [if_pos c4] at H
    have c4b0 : decide (t1466 < 0) = true := decide_eq_true c4
    clear c4
    obtain rfl := Option.some.inj H
    go_enter Try.func68, Try.ntmps68
    go_wp2_with (first | ((with_reducible refine gate_dst (N := 2) rfl ?_); refine box_event ?hg (N := 2) ?hd (cs := #[.slice A0_0 l0_0.length c0_0]) (t := 108) ?hr ?_; (case hd => rfl); (case hg => rfl); (case hr => first | (go_simp; done) | (go_simp; rfl)); intro gb1465 hg w5 hbox hb; have n0_ := Aside0.mk (below_step (by repeat (first | (with_reducible first | exact HB.out | apply below_alloc | apply pw_below_drewN | apply below_drew1) | exact HB.out)) hb); have n1_ := Aside0.mk (hbox); have n2_ := Aside0.mk ((by rw [hg]; exact (below_size (by repeat (first | (with_reducible first | exact HB.out | apply below_alloc | apply pw_below_drewN | apply below_drew1) | exact HB.out))) : w.heap.size ≤ gb1465)); have n3_ := Aside0.mk ((by rw [hg]; exact (below_size (by repeat (first | (with_reducible first | exact HB.out | apply below_alloc | apply pw_below_drewN | apply below_drew1) | exact HB.out))) : w.heap.size ≤ gb1465)); clear HB; have HB := n0_; have BK1465 := n1_; have GW1465 := n2_; have GE1465 := n3_; clear n0_ n1_ n2_ n3_; clear hb hbox hg; have hcz6_0 : w5.cell? ⟨gb1465, 0, none⟩ = some (.slice A0_0 l0_0.length c0_0) := (blk_cell BK1465.out 0).trans rfl; have hfz6_0 := blk_frozen BK1465.out 0) | ((with_reducible refine gate_callee (f := 129) rfl ?_); refine goesL_ (some 8) rfl rfl Try.func129 (by kernel_rfl) rfl #[.slice A0_0 l0_0.length c0_0, .int .i64 a1] rfl (by (try simp only [List.map_toArray, List.map_cons, List.map_nil]); first | done | rfl | (simp only [List.length_drop, List.length_take]; rfl)) ?_; (with_reducible refine (laws_szBlockS.calls k _ _ l0_0 a1 t1466 _ ?side1 ?side2 A3.out).mono ?_); (case side1 => repeat (first | exact (Kd.C_below HR0_0.out HB.out) | (with_reducible refine Kd.C_alloc ?_ _) | (with_reducible refine Kd.C_drewN ?_ _) | (with_reducible refine Kd.C_drew ?_))); (case side2 => exact HC0_0.out); rintro e w7 ⟨rfl, hb⟩; refine ⟨_, rfl, ?_⟩; have n0_ := Aside0.mk (blk_below (g := gb1465) (o := .cells #[.slice A0_0 l0_0.length c0_0] 108 (0, 0)) (by (with_reducible repeat (first | refine blk_drewN ?_ _ | refine blk_drew ?_ | refine blk_alloc ?_ _)); exact BK1465.out) hb); have n1_ := Aside0.mk (below_step (by repeat (first | (with_reducible first | exact HB.out | apply below_alloc | apply pw_below_drewN | apply below_drew1 | refine below_set ?_ GE1465.out) | exact HB.out)) hb); clear BK1465; clear HB; have BK1465 := n0_; have HB := n1_; clear n0_ n1_; (try clear hb); (try clear hb2); (try clear hk); (try clear hi)))
    go_ret
    exact ⟨by first | rfl | (simp [errW_none, errW_some] <;> rfl) | (simp [*, errW_none, errW_some] <;> rfl), by repeat (first | (with_reducible first | exact HB.out | apply below_alloc | apply pw_below_drewN | apply below_drew1 | refine below_set ?_ GE1465.out) | exact HB.out)⟩
  · rw [if_neg c4] at H
    have c4b0 : decide (t1466 < 0) = false := decide_eq_false c4
    clear c4
    obtain rfl := Option.some.inj H
    go_enter Try.func68, Try.ntmps68
    go_wp2_with (first | ((with_reducible refine gate_dst (N := 2) rfl ?_); refine box_event ?hg (N := 2) ?hd (cs := #[.slice A0_0 l0_0.length c0_0]) (t := 108) ?hr ?_; (case hd => rfl); (case hg => rfl); (case hr => first | (go_simp; done) | (go_simp; rfl)); intro gb1465 hg w8 hbox hb; have n0_ := Aside0.mk (below_step (by repeat (first | (with_reducible first | exact HB.out | apply below_alloc | apply pw_below_drewN | apply below_drew1) | exact HB.out)) hb); have n1_ := Aside0.mk (hbox); have n2_ := Aside0.mk ((by rw [hg]; exact (below_size (by repeat (first | (with_reducible first | exact HB.out | apply below_alloc | apply pw_below_drewN | apply below_drew1) | exact HB.out))) : w.heap.size ≤ gb1465)); have n3_ := Aside0.mk ((by rw [hg]; exact (below_size (by repeat (first | (with_reducible first | exact HB.out | apply below_alloc | apply pw_below_drewN | apply below_drew1) | exact HB.out))) : w.heap.size ≤ gb1465)); clear HB; have HB := n0_; have BK1465 := n1_; have GW1465 := n2_; have GE1465 := n3_; clear n0_ n1_ n2_ n3_; clear hb hbox hg; have hcz9_0 : w8.cell? ⟨gb1465, 0, none⟩ = some (.slice A0_0 l0_0.length c0_0) := (blk_cell BK1465.out 0).trans rfl; have hfz9_0 := blk_frozen BK1465.out 0) | ((with_reducible refine gate_callee (f := 129) rfl ?_); refine goesL_ (some 8) rfl rfl Try.func129 (by kernel_rfl) rfl #[.slice A0_0 l0_0.length c0_0, .int .i64 a1] rfl (by (try simp only [List.map_toArray, List.map_cons, List.map_nil]); first | done | rfl | (simp only [List.length_drop, List.length_take]; rfl)) ?_; (with_reducible refine (laws_szBlockS.calls k _ _ l0_0 a1 t1466 _ ?side1 ?side2 A3.out).mono ?_); (case side1 => repeat (first | exact (Kd.C_below HR0_0.out HB.out) | (with_reducible refine Kd.C_alloc ?_ _) | (with_reducible refine Kd.C_drewN ?_ _) | (with_reducible refine Kd.C_drew ?_))); (case side2 => exact HC0_0.out); rintro e w10 ⟨rfl, hb⟩; refine ⟨_, rfl, ?_⟩; have n0_ := Aside0.mk (blk_below (g := gb1465) (o := .cells #[.slice A0_0 l0_0.length c0_0] 108 (0, 0)) (by (with_reducible repeat (first | refine blk_drewN ?_ _ | refine blk_drew ?_ | refine blk_alloc ?_ _)); exact BK1465.out) hb); have n1_ := Aside0.mk (below_step (by repeat (first | (with_reducible first | exact HB.out | apply below_alloc | apply pw_below_drewN | apply below_drew1 | refine below_set ?_ GE1465.out) | exact HB.out)) hb); clear BK1465; clear HB; have BK1465 := n0_; have HB := n1_; clear n0_ n1_; (try clear hb); (try clear hb2); (try clear hk); (try clear hi)))
    go_ret
    exact ⟨by first | rfl | (simp [errW_none, errW_some] <;> rfl) | (simp [*, errW_none, errW_some] <;> rfl), by repeat (first | (with_reducible first | exact HB.out | apply below_alloc | apply pw_below_drewN | apply below_drew1 | refine below_set ?_ GE1465.out) | exact HB.out)⟩

end Go.Proofs.Ytdolplcbokioaaa.PB

/- Functions of the translation as plain Lean functions, and for each that its call comes to just what its Lean function answers; its conditions stand in each theorem. Written by a program of this session. -/
namespace Go.Proofs.Ytdolplcbokioaaa.PB
open Go.RowKit Go.Proofs.YtdolplcbokioaaaW.PrintWords Go.Proofs.YtdolplcbokioaaaW.PrintLast Go.Proofs.YtdolplcbokioaaaW.PrintMore
attribute [local go_sem] max2_int min2_int max_two min_two max_three min_three max_four min_four   -- for this text's walks alone
set_option linter.unusedVariables false
set_option linter.unusedSimpArgs false

/-! ### spec_NextBlank: function 40 -/
def spec_NextBlank.l0 : Nat → Int → Bool → Int → List (S142) → Option (Int)
  | 0, _, _, _, _ => none
  | k + 1, x3, x904000, x904001, x904002 => if x3 < (x904002.length : Int) then (if 0 ≤ x3 then (if ((rd_T142 x904002 x3).f0) = 0 then (some x3) else (spec_NextBlank.l0 k (wrap64 (x3 + 1)) x904000 x904001 x904002)) else (none)) else (some 4)
def spec_NextBlank.f (k : Nat) (a0_0 : Bool) (a0_1 : Int) (l0_2 : List (S142)) : Option (Int) := spec_NextBlank.l0 k 0 a0_0 a0_1 l0_2
theorem spec_NextBlank.mono_l : ∀ k, (∀ y0 y1 y2 y3, LeO (spec_NextBlank.l0 k y0 y1 y2 y3) (spec_NextBlank.l0 (k + 1) y0 y1 y2 y3))
  | 0 => fun _ _ _ _ r h => by simp [spec_NextBlank.l0] at h
  | k + 1 => by
    have ih0 := spec_NextBlank.mono_l k
    · intro y0 y1 y2 y3
      unfold spec_NextBlank.l0
      repeat' first
      | (with_reducible exact ih0 _ _ _ _)
      | (with_reducible exact LeO.refl _)
      | (with_reducible exact LeO.none _)
      | (with_reducible refine LeO.ite ?_ ?_)
      | (with_reducible refine LeO.bind ?_ (fun _ => ?_))
      | exact ih0 _ _ _ _
      | exact LeO.none _
      | refine LeO.ite ?_ ?_
      | refine LeO.bind ?_ (fun _ => ?_)
theorem spec_NextBlank.mono : ∀ a0 a1 a2 k, LeO (spec_NextBlank.f k a0 a1 a2) (spec_NextBlank.f (k + 1) a0 a1 a2) := by
  intro a0 a1 a2 k
  have ih0 := spec_NextBlank.mono_l k
  unfold spec_NextBlank.f
  repeat' first
      | (with_reducible exact ih0 _ _ _ _)
      | (with_reducible exact LeO.refl _)
      | (with_reducible exact LeO.none _)
      | (with_reducible refine LeO.ite ?_ ?_)
      | (with_reducible refine LeO.bind ?_ (fun _ => ?_))
      | exact ih0 _ _ _ _
      | exact LeO.none _
      | refine LeO.ite ?_ ?_
      | refine LeO.bind ?_ (fun _ => ?_)
set_option maxHeartbeats 8000000 in
set_option maxRecDepth 100000 in
theorem spec_NextBlank.calls (k : Nat) (a0_0 : Bool) (a0_1 : Int) (A0_2 : Option Addr) (c0_2 : Nat) (l0_2 : List (S142)) (r : Int) (w : World) (hr0_2 : Kd.C k142 w A0_2 l0_2.length l0_2) (hc0_2 : l0_2.length ≤ c0_2) (h : spec_NextBlank.f k a0_0 a0_1 l0_2 = some r) :
    Calls Try.prog 40 #[.agg #[.bool a0_0, .int .i64 a0_1, .slice A0_2 l0_2.length c0_2]] w fun e w' => e = .returned (.int .i64 r) ∧ Below w.heap.size w w' := by
  have hu71 := Try.underlying71
  have HR0_2 := Aside0.mk hr0_2
  have HC0_2 := Aside0.mk hc0_2
  clear hr0_2 hc0_2
  have HB := Aside0.mk (Below.refl w.heap.size w)
  have H : (spec_NextBlank.l0 k 0 a0_0 a0_1 l0_2) = some r := h
  clear h
  have H' := Aside0.mk H
  clear H
  go_enter Try.func40, Try.ntmps40
  go_wp2_with (first | ((with_reducible refine gate_dst (N := 1) rfl ?_); refine box_event ?hg (N := 1) ?hd (cs := #[.bool a0_0, .int .i64 a0_1, .slice A0_2 l0_2.length c0_2]) (t := 71) ?hr ?_; (case hd => rfl); (case hg => rfl); (case hr => first | (go_simp; done) | (go_simp; rfl)); intro gb903 hg w2 hbox hb; have n0_ := Aside0.mk (below_step (by repeat (first | (with_reducible first | exact HB.out | apply below_alloc | apply pw_below_drewN | apply below_drew1) | exact HB.out)) hb); have n1_ := Aside0.mk (hbox); have n2_ := Aside0.mk ((by rw [hg]; exact (below_size (by repeat (first | (with_reducible first | exact HB.out | apply below_alloc | apply pw_below_drewN | apply below_drew1) | exact HB.out))) : w.heap.size ≤ gb903)); have n3_ := Aside0.mk ((by rw [hg]; exact (below_size (by repeat (first | (with_reducible first | exact HB.out | apply below_alloc | apply pw_below_drewN | apply below_drew1) | exact HB.out))) : w.heap.size ≤ gb903)); clear HB; have HB := n0_; have BK903 := n1_; have GW903 := n2_; have GE903 := n3_; clear n0_ n1_ n2_ n3_; clear hb hbox hg))
  go_loopg [3] k (fun kq v3 w' => ∃ (x3_1 : Int), v3 = .int .i64 x3_1 ∧ Aside0 (spec_NextBlank.l0 kq x3_1 a0_0 a0_1 l0_2 = some r) ∧ Aside0 (kq ≤ k) ∧ Aside0 (w'.heap[gb903]? = some (.cells #[.bool a0_0, .int .i64 a0_1, (.slice A0_2 l0_2.length c0_2)] 71 (0, 0))) ∧ Aside0 (Below w.heap.size w w'))
  case atStart => exact ⟨(0), (by first | rfl | (simp; done) | (simp [*]; done)), H', ⟨Nat.le_refl _⟩, ⟨by (with_reducible repeat (first | refine blk_drewN ?_ _ | refine blk_drew ?_ | refine blk_alloc ?_ _)); exact BK903.out⟩, ⟨by repeat (first | (with_reducible first | exact HB.out | apply below_alloc | apply pw_below_drewN | apply below_drew1 | refine below_set ?_ GE903.out) | exact HB.out)⟩⟩
  case round =>
    clear H'
    try clear p2
    obtain ⟨x3_1, rfl, HA, HK1, BK903, HB⟩ := hrel
    cases gk with
    | zero => exact absurd HA.out (by simp [spec_NextBlank.l0])
    | succ k1 =>
      have H := HA.out
      clear HA
      simp only [spec_NextBlank.l0] at H
      by_cases c3 : x3_1 < (l0_2.length : Int)
      · rw [if_pos c3] at H
        have c3b0 : decide (x3_1 < (l0_2.length : Int)) = true := decide_eq_true c3
        clear c3
        by_cases c4 : 0 ≤ x3_1
        · rw [if_pos c4] at H
          have c4b0 : decide (0 ≤ x3_1) = true := decide_eq_true c4
          clear c4
          by_cases c5 : ((rd_T142 l0_2 x3_1).f0) = 0
          · rw [if_pos c5] at H
            have c5b0 : (((rd_T142 l0_2 x3_1).f0) == 0) = true := beq_iff_eq.mpr c5
            have c5b1 : (((rd_T142 l0_2 x3_1).f0) != 0) = false := bne_eq_false_iff_eq.mpr c5
            clear c5
            obtain rfl := Option.some.inj H
            have hcz6_0 : wr.cell? ⟨gb903, 0, none⟩ = some (.bool a0_0) := (blk_cell BK903.out 0).trans rfl
            have hcz6_1 : wr.cell? ⟨gb903, 1, none⟩ = some (.int .i64 a0_1) := (blk_cell BK903.out 1).trans rfl
            have hcz6_2 : wr.cell? ⟨gb903, 2, none⟩ = some (.slice A0_2 l0_2.length c0_2) := (blk_cell BK903.out 2).trans rfl
            have hfz6_0 := blk_frozen BK903.out 0
            have hfz6_1 := blk_frozen BK903.out 1
            have hfz6_2 := blk_frozen BK903.out 2
            have p904 : 0 ≤ (x3_1 : Int) := of_decide_eq_true (by first | (with_reducible assumption) | assumption)
            have q904 : x3_1 < (l0_2.length : Int) := of_decide_eq_true (by first | (with_reducible assumption) | assumption)
            obtain ⟨ad904, e904, hx904_0, hx904_1⟩ := at_T142 HR0_2.out x3_1 p904 q904
            cases e904
            replace hx904_0 := (HB.out.cell (World.block_lt_of_cell? w _ hx904_0)).trans hx904_0
            replace hx904_1 := (HB.out.cell (World.block_lt_of_cell? w _ hx904_1)).trans hx904_1
            replace p904 := eq_true p904
            replace q904 := eq_true q904
            go_wp2
            go_ret
            exact ⟨by first | rfl | (simp [errW_none, errW_some] <;> rfl) | (simp [*, errW_none, errW_some] <;> rfl), by repeat (first | (with_reducible first | exact HB.out | apply below_alloc | apply pw_below_drewN | apply below_drew1 | refine below_set ?_ GE903.out) | exact HB.out)⟩
          · rw [if_neg c5] at H
            have c5b0 : (((rd_T142 l0_2 x3_1).f0) == 0) = false := beq_eq_false_iff_ne.mpr c5
            have c5b1 : (((rd_T142 l0_2 x3_1).f0) != 0) = true := bne_iff_ne.mpr c5
            have H' := Aside0.mk H
            clear H
            have hcz7_0 : wr.cell? ⟨gb903, 0, none⟩ = some (.bool a0_0) := (blk_cell BK903.out 0).trans rfl
            have hcz7_1 : wr.cell? ⟨gb903, 1, none⟩ = some (.int .i64 a0_1) := (blk_cell BK903.out 1).trans rfl
            have hcz7_2 : wr.cell? ⟨gb903, 2, none⟩ = some (.slice A0_2 l0_2.length c0_2) := (blk_cell BK903.out 2).trans rfl
            have hfz7_0 := blk_frozen BK903.out 0
            have hfz7_1 := blk_frozen BK903.out 1
            have hfz7_2 := blk_frozen BK903.out 2
            have p904 : 0 ≤ (x3_1 : Int) := of_decide_eq_true (by first | (with_reducible assumption) | assumption)
            have q904 : x3_1 < (l0_2.length : Int) := of_decide_eq_true (by first | (with_reducible assumption) | assumption)
            obtain ⟨ad904, e904, hx904_0, hx904_1⟩ := at_T142 HR0_2.out x3_1 p904 q904
            cases e904
            replace hx904_0 := (HB.out.cell (World.block_lt_of_cell? w _ hx904_0)).trans hx904_0
            replace hx904_1 := (HB.out.cell (World.block_lt_of_cell? w _ hx904_1)).trans hx904_1
            replace p904 := eq_true p904
            replace q904 := eq_true q904
            go_wp2
            go_roundg k1
            case measure => have := HK1.out; omega
            case rel => exact ⟨(wrap64 (x3_1 + 1)), (by first | rfl | (simp; done) | (simp [*]; done)), H', ⟨by have := HK1.out; omega⟩, ⟨by (with_reducible repeat (first | refine blk_drewN ?_ _ | refine blk_drew ?_ | refine blk_alloc ?_ _)); exact BK903.out⟩, ⟨by repeat (first | (with_reducible first | exact HB.out | apply below_alloc | apply pw_below_drewN | apply below_drew1 | refine below_set ?_ GE903.out) | exact HB.out)⟩⟩
        · rw [if_neg c4] at H
          exact absurd H (by simp)
      · rw [if_neg c3] at H
        have c3b0 : decide (x3_1 < (l0_2.length : Int)) = false := decide_eq_false c3
        clear c3
        obtain rfl := Option.some.inj H
        have hcz8_0 : wr.cell? ⟨gb903, 0, none⟩ = some (.bool a0_0) := (blk_cell BK903.out 0).trans rfl
        have hcz8_1 : wr.cell? ⟨gb903, 1, none⟩ = some (.int .i64 a0_1) := (blk_cell BK903.out 1).trans rfl
        have hcz8_2 : wr.cell? ⟨gb903, 2, none⟩ = some (.slice A0_2 l0_2.length c0_2) := (blk_cell BK903.out 2).trans rfl
        have hfz8_0 := blk_frozen BK903.out 0
        have hfz8_1 := blk_frozen BK903.out 1
        have hfz8_2 := blk_frozen BK903.out 2
        go_wp2
        go_ret
        exact ⟨by first | rfl | (simp [errW_none, errW_some] <;> rfl) | (simp [*, errW_none, errW_some] <;> rfl), by repeat (first | (with_reducible first | exact HB.out | apply below_alloc | apply pw_below_drewN | apply below_drew1 | refine below_set ?_ GE903.out) | exact HB.out)⟩

end Go.Proofs.Ytdolplcbokioaaa.PB

/- Functions of the translation as plain Lean functions, and for each that its call comes to just what its Lean function answers; its conditions stand in each theorem. Written by a program of this session. -/
namespace Go.Proofs.Ytdolplcbokioaaa.PB
open Go.RowKit Go.Proofs.YtdolplcbokioaaaW.PrintWords Go.Proofs.YtdolplcbokioaaaW.PrintLast Go.Proofs.YtdolplcbokioaaaW.PrintMore
attribute [local go_sem] max2_int min2_int max_two min_two max_three min_three max_four min_four   -- for this text's walks alone
set_option linter.unusedVariables false
set_option linter.unusedSimpArgs false

/-! ### spec_l01In: function 86 -/
def spec_l01In.f (a0 : Int) (a1 : Int) (a2 : Int) : Option (Bool) := if a0 ≥ a1 then (some (decide (a0 ≤ a2))) else (some false)
set_option maxHeartbeats 8000000 in
set_option maxRecDepth 100000 in
theorem spec_l01In.calls (a0 : Int) (a1 : Int) (a2 : Int) (r : Bool) (w : World) (h : spec_l01In.f a0 a1 a2 = some r) :
    Calls Try.prog 86 #[.int .i64 a0, .int .i64 a1, .int .i64 a2] w fun e w' => e = .returned (.bool r) ∧ Drawn0 w w' := by
  have H : (if a0 ≥ a1 then (some (decide (a0 ≤ a2))) else (some false)) = some r := h
  clear h
  by_cases c4 : a0 ≥ a1
  · rw [if_pos c4] at H
    have c4b0 : decide (a1 ≤ a0) = true := decide_eq_true c4
    clear c4
    obtain rfl := Option.some.inj H
    go_enter Try.func86, Try.ntmps86
    go_wp2
    go_ret
    exact ⟨by first | rfl | (simp; done) | (simp [*]; done), by repeat (first | exact Drawn0.refl _ | apply Drawn0.step)⟩
  · rw [if_neg c4] at H
    have c4b0 : decide (a1 ≤ a0) = false := decide_eq_false c4
    clear c4
    obtain rfl := Option.some.inj H
    go_enter Try.func86, Try.ntmps86
    go_wp2
    go_ret
    exact ⟨by first | rfl | (simp; done) | (simp [*]; done), by repeat (first | exact Drawn0.refl _ | apply Drawn0.step)⟩

end Go.Proofs.Ytdolplcbokioaaa.PB

/- Functions of the translation as plain Lean functions, and for each that its call comes to just what its Lean function answers; its conditions stand in each theorem. Written by a program of this session. -/
namespace Go.Proofs.Ytdolplcbokioaaa.PB
open Go.RowKit Go.Proofs.YtdolplcbokioaaaW.PrintWords Go.Proofs.YtdolplcbokioaaaW.PrintLast Go.Proofs.YtdolplcbokioaaaW.PrintMore
attribute [local go_sem] max2_int min2_int max_two min_two max_three min_three max_four min_four   -- for this text's walks alone
set_option linter.unusedVariables false
set_option linter.unusedSimpArgs false

/-! ### spec_l05Leaf: function 151 -/
def spec_l05Leaf.f (a0_0 : Int) (a0_1 : ByteArray) : Option (Bool) := if a0_0 = 0 then (some (a0_1.toList == ([] : List UInt8))) else (if a0_0 = 1 then ((spec_l01In.f (a0_1.size : Int) 1 120).bind fun t920 => (some t920)) else (if a0_0 = 2 then (some (decide ((a0_1.size : Int) ≤ 120))) else (some false)))
set_option maxHeartbeats 8000000 in
set_option maxRecDepth 100000 in
theorem spec_l05Leaf.calls (a0_0 : Int) (a0_1 : ByteArray) (r : Bool) (w : World) (h : spec_l05Leaf.f a0_0 a0_1 = some r) :
    Calls Try.prog 151 #[.agg #[.int .i64 a0_0, .string a0_1]] w fun e w' => e = .returned (.bool r) ∧ Below w.heap.size w w' := by
  have hu142 := Try.underlying142
  have HB := Aside0.mk (Below.refl w.heap.size w)
  have H : (if a0_0 = 0 then (some (a0_1.toList == ([] : List UInt8))) else (if a0_0 = 1 then ((spec_l01In.f (a0_1.size : Int) 1 120).bind fun t920 => (some t920)) else (if a0_0 = 2 then (some (decide ((a0_1.size : Int) ≤ 120))) else (some false)))) = some r := h
  clear h
  by_cases c2 : a0_0 = 0
  · rw [if_pos c2] at H
    have c2b0 : (a0_0 == 0) = true := beq_iff_eq.mpr c2
    have c2b1 : (a0_0 != 0) = false := bne_eq_false_iff_eq.mpr c2
    clear c2
    obtain rfl := Option.some.inj H
    go_enter Try.func151, Try.ntmps151
    go_wp2_with (first | ((with_reducible refine gate_dst (N := 1) rfl ?_); refine box_event ?hg (N := 1) ?hd (cs := #[.int .i64 a0_0, .string a0_1]) (t := 142) ?hr ?_; (case hd => rfl); (case hg => rfl); (case hr => first | (go_simp; done) | (go_simp; rfl)); intro gb919 hg w3 hbox hb; have n0_ := Aside0.mk (below_step (by repeat (first | (with_reducible first | exact HB.out | apply below_alloc | apply pw_below_drewN | apply below_drew1) | exact HB.out)) hb); have n1_ := Aside0.mk (hbox); have n2_ := Aside0.mk ((by rw [hg]; exact (below_size (by repeat (first | (with_reducible first | exact HB.out | apply below_alloc | apply pw_below_drewN | apply below_drew1) | exact HB.out))) : w.heap.size ≤ gb919)); have n3_ := Aside0.mk ((by rw [hg]; exact (below_size (by repeat (first | (with_reducible first | exact HB.out | apply below_alloc | apply pw_below_drewN | apply below_drew1) | exact HB.out))) : w.heap.size ≤ gb919)); clear HB; have HB := n0_; have BK919 := n1_; have GW919 := n2_; have GE919 := n3_; clear n0_ n1_ n2_ n3_; clear hb hbox hg; have hcz4_0 : w3.cell? ⟨gb919, 0, none⟩ = some (.int .i64 a0_0) := (blk_cell BK919.out 0).trans rfl; have hcz4_1 : w3.cell? ⟨gb919, 1, none⟩ = some (.string a0_1) := (blk_cell BK919.out 1).trans rfl; have hfz4_0 := blk_frozen BK919.out 0; have hfz4_1 := blk_frozen BK919.out 1))
    go_ret
    exact ⟨by first | rfl | (simp [errW_none, errW_some] <;> rfl) | (simp [*, errW_none, errW_some] <;> rfl), by repeat (first | (with_reducible first | exact HB.out | apply below_alloc | apply pw_below_drewN | apply below_drew1 | refine below_set ?_ GE919.out) | exact HB.out)⟩
  · rw [if_neg c2] at H
    have c2b0 : (a0_0 == 0) = false := beq_eq_false_iff_ne.mpr c2
    have c2b1 : (a0_0 != 0) = true := bne_iff_ne.mpr c2
    by_cases c5 : a0_0 = 1
    · rw [if_pos c5] at H
      have c5b0 : (a0_0 == 1) = true := beq_iff_eq.mpr c5
      have c5b1 : (a0_0 != 1) = false := bne_eq_false_iff_eq.mpr c5
      clear c5
      replace H := Option.bind_eq_some_iff.mp H
      obtain ⟨t920, A60, H⟩ := H
      replace H : (some t920) = some r := H
      have A6 := Aside0.mk A60
      clear A60
      obtain rfl := Option.some.inj H
      go_enter Try.func151, Try.ntmps151
      go_wp2_with (first | ((with_reducible refine gate_dst (N := 1) rfl ?_); refine box_event ?hg (N := 1) ?hd (cs := #[.int .i64 a0_0, .string a0_1]) (t := 142) ?hr ?_; (case hd => rfl); (case hg => rfl); (case hr => first | (go_simp; done) | (go_simp; rfl)); intro gb919 hg w7 hbox hb; have n0_ := Aside0.mk (below_step (by repeat (first | (with_reducible first | exact HB.out | apply below_alloc | apply pw_below_drewN | apply below_drew1) | exact HB.out)) hb); have n1_ := Aside0.mk (hbox); have n2_ := Aside0.mk ((by rw [hg]; exact (below_size (by repeat (first | (with_reducible first | exact HB.out | apply below_alloc | apply pw_below_drewN | apply below_drew1) | exact HB.out))) : w.heap.size ≤ gb919)); have n3_ := Aside0.mk ((by rw [hg]; exact (below_size (by repeat (first | (with_reducible first | exact HB.out | apply below_alloc | apply pw_below_drewN | apply below_drew1) | exact HB.out))) : w.heap.size ≤ gb919)); clear HB; have HB := n0_; have BK919 := n1_; have GW919 := n2_; have GE919 := n3_; clear n0_ n1_ n2_ n3_; clear hb hbox hg; have hcz8_0 : w7.cell? ⟨gb919, 0, none⟩ = some (.int .i64 a0_0) := (blk_cell BK919.out 0).trans rfl; have hcz8_1 : w7.cell? ⟨gb919, 1, none⟩ = some (.string a0_1) := (blk_cell BK919.out 1).trans rfl; have hfz8_0 := blk_frozen BK919.out 0; have hfz8_1 := blk_frozen BK919.out 1) | ((with_reducible refine gate_callee (f := 86) rfl ?_); refine goesL_ (some 15) rfl rfl Try.func86 (by kernel_rfl) rfl #[.int .i64 (a0_1.size : Int), .int .i64 1, .int .i64 120] rfl (by (try simp only [List.map_toArray, List.map_cons, List.map_nil]); first | done | rfl | (simp only [List.length_drop, List.length_take]; rfl)) ?_; (with_reducible refine (spec_l01In.calls (a0_1.size : Int) 1 120 t920 _ A6.out).mono ?_); rintro e w' ⟨rfl, ⟨nd, rfl⟩⟩; refine ⟨_, rfl, ?_⟩))
      go_ret
      exact ⟨by first | rfl | (simp [errW_none, errW_some] <;> rfl) | (simp [*, errW_none, errW_some] <;> rfl), by repeat (first | (with_reducible first | exact HB.out | apply below_alloc | apply pw_below_drewN | apply below_drew1 | refine below_set ?_ GE919.out) | exact HB.out)⟩
    · rw [if_neg c5] at H
      have c5b0 : (a0_0 == 1) = false := beq_eq_false_iff_ne.mpr c5
      have c5b1 : (a0_0 != 1) = true := bne_iff_ne.mpr c5
      by_cases c9 : a0_0 = 2
      · rw [if_pos c9] at H
        have c9b0 : (a0_0 == 2) = true := beq_iff_eq.mpr c9
        have c9b1 : (a0_0 != 2) = false := bne_eq_false_iff_eq.mpr c9
        clear c9
        obtain rfl := Option.some.inj H
        go_enter Try.func151, Try.ntmps151
        go_wp2_with (first | ((with_reducible refine gate_dst (N := 1) rfl ?_); refine box_event ?hg (N := 1) ?hd (cs := #[.int .i64 a0_0, .string a0_1]) (t := 142) ?hr ?_; (case hd => rfl); (case hg => rfl); (case hr => first | (go_simp; done) | (go_simp; rfl)); intro gb919 hg w10 hbox hb; have n0_ := Aside0.mk (below_step (by repeat (first | (with_reducible first | exact HB.out | apply below_alloc | apply pw_below_drewN | apply below_drew1) | exact HB.out)) hb); have n1_ := Aside0.mk (hbox); have n2_ := Aside0.mk ((by rw [hg]; exact (below_size (by repeat (first | (with_reducible first | exact HB.out | apply below_alloc | apply pw_below_drewN | apply below_drew1) | exact HB.out))) : w.heap.size ≤ gb919)); have n3_ := Aside0.mk ((by rw [hg]; exact (below_size (by repeat (first | (with_reducible first | exact HB.out | apply below_alloc | apply pw_below_drewN | apply below_drew1) | exact HB.out))) : w.heap.size ≤ gb919)); clear HB; have HB := n0_; have BK919 := n1_; have GW919 := n2_; have GE919 := n3_; clear n0_ n1_ n2_ n3_; clear hb hbox hg; have hcz11_0 : w10.cell? ⟨gb919, 0, none⟩ = some (.int .i64 a0_0) := (blk_cell BK919.out 0).trans rfl; have hcz11_1 : w10.cell? ⟨gb919, 1, none⟩ = some (.string a0_1) := (blk_cell BK919.out 1).trans rfl; have hfz11_0 := blk_frozen BK919.out 0; have hfz11_1 := blk_frozen BK919.out 1))
        go_ret
        exact ⟨by first | rfl | (simp [errW_none, errW_some] <;> rfl) | (simp [*, errW_none, errW_some] <;> rfl), by repeat (first | (with_reducible first | exact HB.out | apply below_alloc | apply pw_below_drewN | apply below_drew1 | refine below_set ?_ GE919.out) | exact HB.out)⟩
      · rw [if_neg c9] at H
        have c9b0 : (a0_0 == 2) = false := beq_eq_false_iff_ne.mpr c9
        have c9b1 : (a0_0 != 2) = true := bne_iff_ne.mpr c9
        obtain rfl := Option.some.inj H
        go_enter Try.func151, Try.ntmps151
        go_wp2_with (first | ((with_reducible refine gate_dst (N := 1) rfl ?_); refine box_event ?hg (N := 1) ?hd (cs := #[.int .i64 a0_0, .string a0_1]) (t := 142) ?hr ?_; (case hd => rfl); (case hg => rfl); (case hr => first | (go_simp; done) | (go_simp; rfl)); intro gb919 hg w12 hbox hb; have n0_ := Aside0.mk (below_step (by repeat (first | (with_reducible first | exact HB.out | apply below_alloc | apply pw_below_drewN | apply below_drew1) | exact HB.out)) hb); have n1_ := Aside0.mk (hbox); have n2_ := Aside0.mk ((by rw [hg]; exact (below_size (by repeat (first | (with_reducible first | exact HB.out | apply below_alloc | apply pw_below_drewN | apply below_drew1) | exact HB.out))) : w.heap.size ≤ gb919)); have n3_ := Aside0.mk ((by rw [hg]; exact (below_size (by repeat (first | (with_reducible first | exact HB.out | apply below_alloc | apply pw_below_drewN | apply below_drew1) | exact HB.out))) : w.heap.size ≤ gb919)); clear HB; have HB := n0_; have BK919 := n1_; have GW919 := n2_; have GE919 := n3_; clear n0_ n1_ n2_ n3_; clear hb hbox hg; have hcz13_0 : w12.cell? ⟨gb919, 0, none⟩ = some (.int .i64 a0_0) := (blk_cell BK919.out 0).trans rfl; have hcz13_1 : w12.cell? ⟨gb919, 1, none⟩ = some (.string a0_1) := (blk_cell BK919.out 1).trans rfl; have hfz13_0 := blk_frozen BK919.out 0; have hfz13_1 := blk_frozen BK919.out 1))
        go_ret
        exact ⟨by first | rfl | (simp [errW_none, errW_some] <;> rfl) | (simp [*, errW_none, errW_some] <;> rfl), by repeat (first | (with_reducible first | exact HB.out | apply below_alloc | apply pw_below_drewN | apply below_drew1 | refine below_set ?_ GE919.out) | exact HB.out)⟩

end Go.Proofs.Ytdolplcbokioaaa.PB

/- Functions of the translation as plain Lean functions, and for each that its call comes to just what its Lean function answers; its conditions stand in each theorem. Written by a program of this session. -/
namespace Go.Proofs.Ytdolplcbokioaaa.PB
open Go.RowKit Go.Proofs.YtdolplcbokioaaaW.PrintWords Go.Proofs.YtdolplcbokioaaaW.PrintLast Go.Proofs.YtdolplcbokioaaaW.PrintMore
attribute [local go_sem] max2_int min2_int max_two min_two max_three min_three max_four min_four   -- for this text's walks alone
set_option linter.unusedVariables false
set_option linter.unusedSimpArgs false

/-! ### spec_FlashOk: function 110 -/
mutual
def spec_FlashOk.l0 : Nat → Int → List (S71) → Option (Bool)
  | 0, _, _ => none
  | k + 1, x3, x922000 => if x3 < (x922000.length : Int) then (if 0 ≤ x3 then (if (((rd_T71 x922000 x3).f2).length : Int) = 4 then ((spec_l01In.f ((rd_T71 x922000 x3).f1) 0 1000000000).bind fun t925 => (spec_FlashOk.j1 k x3 (!t925) x922000 ((rd_T71 x922000 x3).f0) ((rd_T71 x922000 x3).f1) ((rd_T71 x922000 x3).f2))) else (spec_FlashOk.j1 k x3 true x922000 ((rd_T71 x922000 x3).f0) ((rd_T71 x922000 x3).f1) ((rd_T71 x922000 x3).f2))) else (none)) else ((spec_l01In.f (x922000.length : Int) 3 10).bind fun t922 => (some t922))
def spec_FlashOk.j1 : Nat → Int → Bool → List (S71) → Bool → Int → List (S142) → Option (Bool)
  | 0, _, _, _, _, _, _ => none
  | k + 1, x3, x27, x922000, x925000, x925001, x925002 => if x27 = true then (some false) else (spec_FlashOk.l1 k x3 0 x922000 x925000 x925001 x925002)
def spec_FlashOk.l1 : Nat → Int → Int → List (S71) → Bool → Int → List (S142) → Option (Bool)
  | 0, _, _, _, _, _, _ => none
  | k + 1, x3, x5, x922000, x925000, x925001, x925002 => if x5 < (x925002.length : Int) then (if 0 ≤ x5 then ((spec_l05Leaf.f ((rd_T142 x925002 x5).f0) ((rd_T142 x925002 x5).f1)).bind fun t927 => (if t927 = true then (if x5 > 0 then (if 0 ≤ (wrap64 (x5 - 1)) then (if (wrap64 (x5 - 1)) < (x925002.length : Int) then (if ((rd_T142 x925002 (wrap64 (x5 - 1))).f0) = 0 then (if ((rd_T142 x925002 x5).f0) = 0 then (spec_FlashOk.l1 k x3 (wrap64 (x5 + 1)) x922000 x925000 x925001 x925002) else (some false)) else (spec_FlashOk.l1 k x3 (wrap64 (x5 + 1)) x922000 x925000 x925001 x925002)) else (none)) else (none)) else (spec_FlashOk.l1 k x3 (wrap64 (x5 + 1)) x922000 x925000 x925001 x925002)) else (some false))) else (none)) else (spec_FlashOk.l0 k (wrap64 (x3 + 1)) x922000)
end
def spec_FlashOk.f (k : Nat) (l0_0 : List (S71)) : Option (Bool) := spec_FlashOk.l0 k 0 l0_0
theorem spec_FlashOk.mono_l : ∀ k, (∀ y0 y1, LeO (spec_FlashOk.l0 k y0 y1) (spec_FlashOk.l0 (k + 1) y0 y1)) ∧ (∀ y0 y1 y2 y3 y4 y5, LeO (spec_FlashOk.j1 k y0 y1 y2 y3 y4 y5) (spec_FlashOk.j1 (k + 1) y0 y1 y2 y3 y4 y5)) ∧ (∀ y0 y1 y2 y3 y4 y5, LeO (spec_FlashOk.l1 k y0 y1 y2 y3 y4 y5) (spec_FlashOk.l1 (k + 1) y0 y1 y2 y3 y4 y5))
  | 0 => ⟨fun _ _ r h => by simp [spec_FlashOk.l0] at h, fun _ _ _ _ _ _ r h => by simp [spec_FlashOk.j1] at h, fun _ _ _ _ _ _ r h => by simp [spec_FlashOk.l1] at h⟩
  | k + 1 => by
    obtain ⟨ih0, ih1, ih2⟩ := spec_FlashOk.mono_l k
    refine ⟨?_, ?_, ?_⟩
    · intro y0 y1
      unfold spec_FlashOk.l0
      repeat' first
      | (with_reducible exact ih0 _ _)
      | (with_reducible exact ih1 _ _ _ _ _ _)
      | (with_reducible exact ih2 _ _ _ _ _ _)
      | (with_reducible exact LeO.refl _)
      | (with_reducible exact LeO.none _)
      | (with_reducible refine LeO.ite ?_ ?_)
      | (with_reducible refine LeO.bind ?_ (fun _ => ?_))
      | exact ih0 _ _
      | exact ih1 _ _ _ _ _ _
      | exact ih2 _ _ _ _ _ _
      | exact LeO.none _
      | refine LeO.ite ?_ ?_
      | refine LeO.bind ?_ (fun _ => ?_)
    · intro y0 y1 y2 y3 y4 y5
      unfold spec_FlashOk.j1
      repeat' first
      | (with_reducible exact ih0 _ _)
      | (with_reducible exact ih1 _ _ _ _ _ _)
      | (with_reducible exact ih2 _ _ _ _ _ _)
      | (with_reducible exact LeO.refl _)
      | (with_reducible exact LeO.none _)
      | (with_reducible refine LeO.ite ?_ ?_)
      | (with_reducible refine LeO.bind ?_ (fun _ => ?_))
      | exact ih0 _ _
      | exact ih1 _ _ _ _ _ _
      | exact ih2 _ _ _ _ _ _
      | exact LeO.none _
      | refine LeO.ite ?_ ?_
      | refine LeO.bind ?_ (fun _ => ?_)
    · intro y0 y1 y2 y3 y4 y5
      unfold spec_FlashOk.l1
      repeat' first
      | (with_reducible exact ih0 _ _)
      | (with_reducible exact ih1 _ _ _ _ _ _)
      | (with_reducible exact ih2 _ _ _ _ _ _)
      | (with_reducible exact LeO.refl _)
      | (with_reducible exact LeO.none _)
      | (with_reducible refine LeO.ite ?_ ?_)
      | (with_reducible refine LeO.bind ?_ (fun _ => ?_))
      | exact ih0 _ _
      | exact ih1 _ _ _ _ _ _
      | exact ih2 _ _ _ _ _ _
      | exact LeO.none _
      | refine LeO.ite ?_ ?_
      | refine LeO.bind ?_ (fun _ => ?_)
theorem spec_FlashOk.mono : ∀ a0 k, LeO (spec_FlashOk.f k a0) (spec_FlashOk.f (k + 1) a0) := by
  intro a0 k
  obtain ⟨ih0, ih1, ih2⟩ := spec_FlashOk.mono_l k
  unfold spec_FlashOk.f
  repeat' first
      | (with_reducible exact ih0 _ _)
      | (with_reducible exact ih1 _ _ _ _ _ _)
      | (with_reducible exact ih2 _ _ _ _ _ _)
      | (with_reducible exact LeO.refl _)
      | (with_reducible exact LeO.none _)
      | (with_reducible refine LeO.ite ?_ ?_)
      | (with_reducible refine LeO.bind ?_ (fun _ => ?_))
      | exact ih0 _ _
      | exact ih1 _ _ _ _ _ _
      | exact ih2 _ _ _ _ _ _
      | exact LeO.none _
      | refine LeO.ite ?_ ?_
      | refine LeO.bind ?_ (fun _ => ?_)
set_option maxHeartbeats 8000000 in
set_option maxRecDepth 100000 in
theorem spec_FlashOk.calls (k : Nat) (A0_0 : Option Addr) (c0_0 : Nat) (l0_0 : List (S71)) (r : Bool) (w : World) (hr0_0 : Kd.C k71 w A0_0 l0_0.length l0_0) (hc0_0 : l0_0.length ≤ c0_0) (h : spec_FlashOk.f k l0_0 = some r) :
    Calls Try.prog 110 #[.agg #[.slice A0_0 l0_0.length c0_0]] w fun e w' => e = .returned (.bool r) ∧ Below w.heap.size w w' := by
  have hu63 := Try.underlying63
  have hu71 := Try.underlying71
  have hu142 := Try.underlying142
  have HR0_0 := Aside0.mk hr0_0
  have HC0_0 := Aside0.mk hc0_0
  clear hr0_0 hc0_0
  have HB := Aside0.mk (Below.refl w.heap.size w)
  have H : (spec_FlashOk.l0 k 0 l0_0) = some r := h
  clear h
  have H' := Aside0.mk H
  clear H
  go_enter Try.func110, Try.ntmps110
  go_wp2_with (first | ((with_reducible refine gate_dst (N := 1) rfl ?_); refine box_event ?hg (N := 1) ?hd (cs := #[.slice A0_0 l0_0.length c0_0]) (t := 63) ?hr ?_; (case hd => rfl); (case hg => rfl); (case hr => first | (go_simp; done) | (go_simp; rfl)); intro gb921 hg w2 hbox hb; have n0_ := Aside0.mk (below_step (by repeat (first | (with_reducible first | exact HB.out | apply below_alloc | apply pw_below_drewN | apply below_drew1) | exact HB.out)) hb); have n1_ := Aside0.mk (hbox); have n2_ := Aside0.mk ((by rw [hg]; exact (below_size (by repeat (first | (with_reducible first | exact HB.out | apply below_alloc | apply pw_below_drewN | apply below_drew1) | exact HB.out))) : w.heap.size ≤ gb921)); have n3_ := Aside0.mk ((by rw [hg]; exact (below_size (by repeat (first | (with_reducible first | exact HB.out | apply below_alloc | apply pw_below_drewN | apply below_drew1) | exact HB.out))) : w.heap.size ≤ gb921)); clear HB; have HB := n0_; have BK921 := n1_; have GW921 := n2_; have GE921 := n3_; clear n0_ n1_ n2_ n3_; clear hb hbox hg))
  go_loopg [3] k (fun kq v3 w' => ∃ (x3_1 : Int), v3 = .int .i64 x3_1 ∧ Aside0 (spec_FlashOk.l0 kq x3_1 l0_0 = some r) ∧ Aside0 (kq ≤ k) ∧ Aside0 (w'.heap[gb921]? = some (.cells #[(.slice A0_0 l0_0.length c0_0)] 63 (0, 0))) ∧ Aside0 (Below w.heap.size w w'))
  case atStart => exact ⟨(0), (by first | rfl | (simp; done) | (simp [*]; done)), H', ⟨Nat.le_refl _⟩, ⟨by (with_reducible repeat (first | refine blk_drewN ?_ _ | refine blk_drew ?_ | refine blk_alloc ?_ _)); exact BK921.out⟩, ⟨by repeat (first | (with_reducible first | exact HB.out | apply below_alloc | apply pw_below_drewN | apply below_drew1 | refine below_set ?_ GE921.out) | exact HB.out)⟩⟩
  case round =>
    clear H'
    try clear c1
    try clear p2
    obtain ⟨x3_1, rfl, HA, HK1, BK921, HB⟩ := hrel
    cases gk with
    | zero => exact absurd HA.out (by simp [spec_FlashOk.l0])
    | succ k1 =>
      have H := HA.out
      clear HA
      simp only [spec_FlashOk.l0] at H
      by_cases c3 : x3_1 < (l0_0.length : Int)
      · rw [if_pos c3] at H
        have c3b0 : decide (x3_1 < (l0_0.length : Int)) = true := decide_eq_true c3
        clear c3
        by_cases c4 : 0 ≤ x3_1
        · rw [if_pos c4] at H
          have c4b0 : decide (0 ≤ x3_1) = true := decide_eq_true c4
          clear c4
          have HC5 := Aside0.mk H
          clear H
          have hcz6_0 : wr.cell? ⟨gb921, 0, none⟩ = some (.slice A0_0 l0_0.length c0_0) := (blk_cell BK921.out 0).trans rfl
          have hfz6_0 := blk_frozen BK921.out 0
          have p923 : 0 ≤ (x3_1 : Int) := of_decide_eq_true (by first | (with_reducible assumption) | assumption)
          have q923 : x3_1 < (l0_0.length : Int) := of_decide_eq_true (by first | (with_reducible assumption) | assumption)
          obtain ⟨ad923, A923_2, c923_2, e923, hx923_0, hx923_1, hx923_2, hl923_2, hi923_2⟩ := at_T71 HR0_0.out x3_1 p923 q923
          cases e923
          replace hx923_0 := (HB.out.cell (World.block_lt_of_cell? w _ hx923_0)).trans hx923_0
          replace hx923_1 := (HB.out.cell (World.block_lt_of_cell? w _ hx923_1)).trans hx923_1
          replace hx923_2 := (HB.out.cell (World.block_lt_of_cell? w _ hx923_2)).trans hx923_2
          have HR923_2 := Aside0.mk hi923_2
          have HC923_2 := Aside0.mk hl923_2
          clear hi923_2 hl923_2
          replace p923 := eq_true p923
          replace q923 := eq_true q923
          go_upto_region 5 with (first | ((with_reducible refine gate_dst (N := 4) rfl ?_); refine box_event ?hg (N := 4) ?hd (cs := #[.bool false, .int .i64 0, .slice none 0 0]) (t := 71) ?hr ?_; (case hd => rfl); (case hg => rfl); (case hr => first | (go_simp; done) | (go_simp; rfl)); intro gb924 hg w7 hbox hb; have n0_ := Aside0.mk (blk_below (g := gb921) (o := .cells #[.slice (some ad923) l0_0.length c0_0] 63 (0, 0)) (by (with_reducible repeat (first | refine blk_drewN ?_ _ | refine blk_drew ?_ | refine blk_alloc ?_ _)); exact BK921.out) hb); have n1_ := Aside0.mk (below_step (by repeat (first | (with_reducible first | exact HB.out | apply below_alloc | apply pw_below_drewN | apply below_drew1 | refine below_set ?_ GE921.out) | exact HB.out)) hb); have n2_ := Aside0.mk (hbox); have n3_ := Aside0.mk ((by rw [hg]; exact (below_size (by repeat (first | (with_reducible first | exact HB.out | apply below_alloc | apply pw_below_drewN | apply below_drew1 | refine below_set ?_ GE921.out) | exact HB.out))) : w.heap.size ≤ gb924)); have n4_ := Aside0.mk ((by rw [hg]; exact (below_size (by repeat (first | (with_reducible first | exact HB.out | apply below_alloc | apply pw_below_drewN | apply below_drew1 | refine below_set ?_ GE921.out) | exact HB.out))) : w.heap.size ≤ gb924)); have n5_ := Aside0.mk ((by rw [hg]; exact Nat.ne_of_lt (blk_lt (g := gb921) (o := .cells #[.slice (some ad923) l0_0.length c0_0] 63 (0, 0)) (by (with_reducible repeat (first | refine blk_drewN ?_ _ | refine blk_drew ?_ | refine blk_alloc ?_ _)); exact BK921.out)) : gb921 ≠ gb924)); have n6_ := Aside0.mk ((by rw [hg]; exact Nat.ne_of_gt (blk_lt (g := gb921) (o := .cells #[.slice (some ad923) l0_0.length c0_0] 63 (0, 0)) (by (with_reducible repeat (first | refine blk_drewN ?_ _ | refine blk_drew ?_ | refine blk_alloc ?_ _)); exact BK921.out)) : gb924 ≠ gb921)); clear BK921; clear HB; have BK921 := n0_; have HB := n1_; have BK924 := n2_; have GW924 := n3_; have GE924 := n4_; have NB921_924 := n5_; have NB924_921 := n6_; clear n0_ n1_ n2_ n3_ n4_ n5_ n6_; clear hb hbox hg; have hnb8 := NB924_921.out; have hnc8 := NB921_924.out; have hcz9_0 : w7.cell? ⟨gb924, 0, none⟩ = some (.bool false) := (blk_cell BK924.out 0).trans rfl; have hcz9_1 : w7.cell? ⟨gb924, 1, none⟩ = some (.int .i64 0) := (blk_cell BK924.out 1).trans rfl; have hcz9_2 : w7.cell? ⟨gb924, 2, none⟩ = some (.slice none 0 0) := (blk_cell BK924.out 2).trans rfl; have hfz9_0 := blk_frozen BK924.out 0; have hfz9_1 := blk_frozen BK924.out 1; have hfz9_2 := blk_frozen BK924.out 2))
          (try simp only [Act.put, List.setIfInBounds_toArray, List.set_cons_zero, List.set_cons_succ])
          go_cut [17, 27] (fun v17 v27 wc => ∃ (kq : Nat) (x27_4 : Bool), v27 = .bool x27_4 ∧ Aside0 (spec_FlashOk.j1 kq x3_1 x27_4 l0_0 ((rd_T71 l0_0 x3_1).f0) ((rd_T71 l0_0 x3_1).f1) ((rd_T71 l0_0 x3_1).f2) = some r) ∧ Aside0 (kq ≤ k1) ∧ Aside0 (wc.heap[gb921]? = some (.cells #[(.slice (some ad923) l0_0.length c0_0)] 63 (0, 0))) ∧ Aside0 (wc.heap[gb924]? = some (.cells #[.bool ((rd_T71 l0_0 x3_1).f0), .int .i64 ((rd_T71 l0_0 x3_1).f1), (.slice A923_2 ((rd_T71 l0_0 x3_1).f2).length c923_2)] 71 (0, 0))) ∧ Aside0 (Below w.heap.size w wc))
          case first =>
            have H := HC5.out
            clear HC5
            by_cases c10 : (((rd_T71 l0_0 x3_1).f2).length : Int) = 4
            · rw [if_pos c10] at H
              have c10b0 : ((((rd_T71 l0_0 x3_1).f2).length : Int) == 4) = true := beq_iff_eq.mpr c10
              have c10b1 : ((((rd_T71 l0_0 x3_1).f2).length : Int) != 4) = false := bne_eq_false_iff_eq.mpr c10
              clear c10
              (first | rw [c10b0] | (simp only [i64_w, i32_w]; rw [c10b0]) | skip)
              replace H := Option.bind_eq_some_iff.mp H
              obtain ⟨t925, A110, H⟩ := H
              replace H : (spec_FlashOk.j1 k1 x3_1 (!t925) l0_0 ((rd_T71 l0_0 x3_1).f0) ((rd_T71 l0_0 x3_1).f1) ((rd_T71 l0_0 x3_1).f2)) = some r := H
              have A11 := Aside0.mk A110
              clear A110
              have H' := Aside0.mk H
              clear H
              have hnb12 := NB924_921.out
              have hnc12 := NB921_924.out
              have hcz13_0 : w7.cell? ⟨gb924, 0, none⟩ = some (.bool false) := (blk_cell BK924.out 0).trans rfl
              have hcz13_1 : w7.cell? ⟨gb924, 1, none⟩ = some (.int .i64 0) := (blk_cell BK924.out 1).trans rfl
              have hcz13_2 : w7.cell? ⟨gb924, 2, none⟩ = some (.slice none 0 0) := (blk_cell BK924.out 2).trans rfl
              have hfz13_0 := blk_frozen BK924.out 0
              have hfz13_1 := blk_frozen BK924.out 1
              have hfz13_2 := blk_frozen BK924.out 2
              go_wp2_with (first | (go_at_call 86; (with_reducible refine (spec_l01In.calls ((rd_T71 l0_0 x3_1).f1) 0 1000000000 t925 _ A11.out).mono ?_); rintro e w' ⟨rfl, ⟨nd, rfl⟩⟩))
              go_meet
              case rel => exact ⟨_, (!t925), (by first | rfl | (simp; done) | (simp [*]; done)), H', ⟨by have := HK1.out; first | omega | exact Nat.le_refl _⟩, ⟨by (with_reducible repeat (first | refine blk_drewN ?_ _ | refine blk_drew ?_ | refine blk_alloc ?_ _)); refine blk_far ?_ NB921_924.out _; (with_reducible repeat (first | refine blk_drewN ?_ _ | refine blk_drew ?_ | refine blk_alloc ?_ _)); refine blk_far ?_ NB921_924.out _; (with_reducible repeat (first | refine blk_drewN ?_ _ | refine blk_drew ?_ | refine blk_alloc ?_ _)); refine blk_far ?_ NB921_924.out _; (with_reducible repeat (first | refine blk_drewN ?_ _ | refine blk_drew ?_ | refine blk_alloc ?_ _)); exact BK921.out⟩, ⟨by (with_reducible repeat (first | refine blk_drewN ?_ _ | refine blk_drew ?_ | refine blk_alloc ?_ _)); refine blk_put (cs := #[.bool ((rd_T71 l0_0 x3_1).f0), .int .i64 ((rd_T71 l0_0 x3_1).f1), .slice none 0 0]) ?_ 2 _ rfl; (with_reducible repeat (first | refine blk_drewN ?_ _ | refine blk_drew ?_ | refine blk_alloc ?_ _)); refine blk_put (cs := #[.bool ((rd_T71 l0_0 x3_1).f0), .int .i64 0, .slice none 0 0]) ?_ 1 _ rfl; (with_reducible repeat (first | refine blk_drewN ?_ _ | refine blk_drew ?_ | refine blk_alloc ?_ _)); refine blk_put (cs := #[.bool false, .int .i64 0, .slice none 0 0]) ?_ 0 _ rfl; (with_reducible repeat (first | refine blk_drewN ?_ _ | refine blk_drew ?_ | refine blk_alloc ?_ _)); exact BK924.out⟩, ⟨by repeat (first | (with_reducible first | exact HB.out | apply below_alloc | apply pw_below_drewN | apply below_drew1 | refine below_set ?_ GE921.out | refine below_set ?_ GE924.out) | exact HB.out)⟩⟩
            · rw [if_neg c10] at H
              have c10b0 : ((((rd_T71 l0_0 x3_1).f2).length : Int) == 4) = false := beq_eq_false_iff_ne.mpr c10
              have c10b1 : ((((rd_T71 l0_0 x3_1).f2).length : Int) != 4) = true := bne_iff_ne.mpr c10
              (first | rw [c10b0] | (simp only [i64_w, i32_w]; rw [c10b0]) | skip)
              have H' := Aside0.mk H
              clear H
              have hnb14 := NB924_921.out
              have hnc14 := NB921_924.out
              have hcz15_0 : w7.cell? ⟨gb924, 0, none⟩ = some (.bool false) := (blk_cell BK924.out 0).trans rfl
              have hcz15_1 : w7.cell? ⟨gb924, 1, none⟩ = some (.int .i64 0) := (blk_cell BK924.out 1).trans rfl
              have hcz15_2 : w7.cell? ⟨gb924, 2, none⟩ = some (.slice none 0 0) := (blk_cell BK924.out 2).trans rfl
              have hfz15_0 := blk_frozen BK924.out 0
              have hfz15_1 := blk_frozen BK924.out 1
              have hfz15_2 := blk_frozen BK924.out 2
              go_wp2
              go_meet
              case rel => exact ⟨_, (true), (by first | rfl | (simp; done) | (simp [*]; done)), H', ⟨by have := HK1.out; first | omega | exact Nat.le_refl _⟩, ⟨by (with_reducible repeat (first | refine blk_drewN ?_ _ | refine blk_drew ?_ | refine blk_alloc ?_ _)); refine blk_far ?_ NB921_924.out _; (with_reducible repeat (first | refine blk_drewN ?_ _ | refine blk_drew ?_ | refine blk_alloc ?_ _)); refine blk_far ?_ NB921_924.out _; (with_reducible repeat (first | refine blk_drewN ?_ _ | refine blk_drew ?_ | refine blk_alloc ?_ _)); refine blk_far ?_ NB921_924.out _; (with_reducible repeat (first | refine blk_drewN ?_ _ | refine blk_drew ?_ | refine blk_alloc ?_ _)); exact BK921.out⟩, ⟨by (with_reducible repeat (first | refine blk_drewN ?_ _ | refine blk_drew ?_ | refine blk_alloc ?_ _)); refine blk_put (cs := #[.bool ((rd_T71 l0_0 x3_1).f0), .int .i64 ((rd_T71 l0_0 x3_1).f1), .slice none 0 0]) ?_ 2 _ rfl; (with_reducible repeat (first | refine blk_drewN ?_ _ | refine blk_drew ?_ | refine blk_alloc ?_ _)); refine blk_put (cs := #[.bool ((rd_T71 l0_0 x3_1).f0), .int .i64 0, .slice none 0 0]) ?_ 1 _ rfl; (with_reducible repeat (first | refine blk_drewN ?_ _ | refine blk_drew ?_ | refine blk_alloc ?_ _)); refine blk_put (cs := #[.bool false, .int .i64 0, .slice none 0 0]) ?_ 0 _ rfl; (with_reducible repeat (first | refine blk_drewN ?_ _ | refine blk_drew ?_ | refine blk_alloc ?_ _)); exact BK924.out⟩, ⟨by repeat (first | (with_reducible first | exact HB.out | apply below_alloc | apply pw_below_drewN | apply below_drew1 | refine below_set ?_ GE921.out | refine below_set ?_ GE924.out) | exact HB.out)⟩⟩
          case rest =>
            clear HC5
            try clear c1
            try clear p2
            try clear c3
            try clear c3b0
            try clear c4
            try clear c4b0
            try clear c8
            try clear c9
            try clear p9
            try clear q9
            try clear hx9
            try clear c10
            try clear c10b0
            try clear c10b1
            try clear c11
            try clear c12
            try clear c14
            try clear hcz13_0
            try clear hcz13_1
            try clear hcz13_2
            try clear hcz15_0
            try clear hcz15_1
            try clear hcz15_2
            try clear hcz6_0
            try clear hcz9_0
            try clear hcz9_1
            try clear hcz9_2
            try clear hfz13_0
            try clear hfz13_1
            try clear hfz13_2
            try clear hfz15_0
            try clear hfz15_1
            try clear hfz15_2
            try clear hfz6_0
            try clear hfz9_0
            try clear hfz9_1
            try clear hfz9_2
            try clear hx923_0
            try clear hx923_1
            try clear hx923_2
            try clear p2
            try clear p923
            try clear q923
            obtain ⟨kq, x27_4, rfl, HA, HJ4, BK921, BK924, HB⟩ := hcut
            cases kq with
            | zero => exact absurd HA.out (by simp [spec_FlashOk.j1])
            | succ kj4 =>
              have H := HA.out
              clear HA
              simp only [spec_FlashOk.j1] at H
              by_cases c16 : x27_4 = true
              · subst c16
                have H1 : (some false) = some r := by rw [if_pos rfl] at H; exact H
                clear H
                have H := H1
                clear H1
                obtain rfl := Option.some.inj H
                go_wp2
                go_ret
                exact ⟨by first | rfl | (simp [errW_none, errW_some] <;> rfl) | (simp [*, errW_none, errW_some] <;> rfl), by repeat (first | (with_reducible first | exact HB.out | apply below_alloc | apply pw_below_drewN | apply below_drew1 | refine below_set ?_ GE921.out | refine below_set ?_ GE924.out) | exact HB.out)⟩
              · replace c16 := Bool.eq_false_iff.mpr c16
                subst c16
                have H1 : (spec_FlashOk.l1 kj4 x3_1 0 l0_0 ((rd_T71 l0_0 x3_1).f0) ((rd_T71 l0_0 x3_1).f1) ((rd_T71 l0_0 x3_1).f2)) = some r := by rw [if_neg (show ¬ (false = true) by decide)] at H; exact H
                clear H
                have H := H1
                clear H1
                have H' := Aside0.mk H
                clear H
                go_wp2
                go_loopg [5] kj4 (fun kq v5 w' => ∃ (x5_3 : Int), v5 = .int .i64 x5_3 ∧ Aside0 (spec_FlashOk.l1 kq x3_1 x5_3 l0_0 ((rd_T71 l0_0 x3_1).f0) ((rd_T71 l0_0 x3_1).f1) ((rd_T71 l0_0 x3_1).f2) = some r) ∧ Aside0 (kq ≤ kj4) ∧ Aside0 (w'.heap[gb921]? = some (.cells #[(.slice (some ad923) l0_0.length c0_0)] 63 (0, 0))) ∧ Aside0 (w'.heap[gb924]? = some (.cells #[.bool ((rd_T71 l0_0 x3_1).f0), .int .i64 ((rd_T71 l0_0 x3_1).f1), (.slice A923_2 ((rd_T71 l0_0 x3_1).f2).length c923_2)] 71 (0, 0))) ∧ Aside0 (Below w.heap.size w w'))
                case atStart => exact ⟨(0), (by first | rfl | (simp; done) | (simp [*]; done)), H', ⟨Nat.le_refl _⟩, ⟨by (with_reducible repeat (first | refine blk_drewN ?_ _ | refine blk_drew ?_ | refine blk_alloc ?_ _)); exact BK921.out⟩, ⟨by (with_reducible repeat (first | refine blk_drewN ?_ _ | refine blk_drew ?_ | refine blk_alloc ?_ _)); exact BK924.out⟩, ⟨by repeat (first | (with_reducible first | exact HB.out | apply below_alloc | apply pw_below_drewN | apply below_drew1 | refine below_set ?_ GE921.out | refine below_set ?_ GE924.out) | exact HB.out)⟩⟩
                case round =>
                  clear H'
                  try clear c1
                  try clear p2
                  try clear c3
                  try clear c3b0
                  try clear c4
                  try clear c4b0
                  try clear c8
                  try clear c9
                  try clear p9
                  try clear q9
                  try clear hx9
                  try clear c10
                  try clear c10b0
                  try clear c10b1
                  try clear c11
                  try clear c12
                  try clear c14
                  try clear c16
                  try clear hcz13_0
                  try clear hcz13_1
                  try clear hcz13_2
                  try clear hcz15_0
                  try clear hcz15_1
                  try clear hcz15_2
                  try clear hcz6_0
                  try clear hcz9_0
                  try clear hcz9_1
                  try clear hcz9_2
                  try clear hfz13_0
                  try clear hfz13_1
                  try clear hfz13_2
                  try clear hfz15_0
                  try clear hfz15_1
                  try clear hfz15_2
                  try clear hfz6_0
                  try clear hfz9_0
                  try clear hfz9_1
                  try clear hfz9_2
                  try clear hx923_0
                  try clear hx923_1
                  try clear hx923_2
                  try clear p2
                  try clear p9
                  try clear p923
                  try clear q9
                  try clear q923
                  obtain ⟨x5_3, rfl, HA, HK3, BK921, BK924, HB⟩ := hrel
                  cases gk with
                  | zero => exact absurd HA.out (by simp [spec_FlashOk.l1])
                  | succ k3 =>
                    have H := HA.out
                    clear HA
                    simp only [spec_FlashOk.l1] at H
                    by_cases c17 : x5_3 < (((rd_T71 l0_0 x3_1).f2).length : Int)
                    · rw [if_pos c17] at H
                      have c17b0 : decide (x5_3 < (((rd_T71 l0_0 x3_1).f2).length : Int)) = true := decide_eq_true c17
                      clear c17
                      by_cases c18 : 0 ≤ x5_3
                      · rw [if_pos c18] at H
                        have c18b0 : decide (0 ≤ x5_3) = true := decide_eq_true c18
                        clear c18
                        replace H := Option.bind_eq_some_iff.mp H
                        obtain ⟨t927, A190, H⟩ := H
                        replace H : (if t927 = true then (if x5_3 > 0 then (if 0 ≤ (wrap64 (x5_3 - 1)) then (if (wrap64 (x5_3 - 1)) < (((rd_T71 l0_0 x3_1).f2).length : Int) then (if ((rd_T142 ((rd_T71 l0_0 x3_1).f2) (wrap64 (x5_3 - 1))).f0) = 0 then (if ((rd_T142 ((rd_T71 l0_0 x3_1).f2) x5_3).f0) = 0 then (spec_FlashOk.l1 k3 x3_1 (wrap64 (x5_3 + 1)) l0_0 ((rd_T71 l0_0 x3_1).f0) ((rd_T71 l0_0 x3_1).f1) ((rd_T71 l0_0 x3_1).f2)) else (some false)) else (spec_FlashOk.l1 k3 x3_1 (wrap64 (x5_3 + 1)) l0_0 ((rd_T71 l0_0 x3_1).f0) ((rd_T71 l0_0 x3_1).f1) ((rd_T71 l0_0 x3_1).f2))) else (none)) else (none)) else (spec_FlashOk.l1 k3 x3_1 (wrap64 (x5_3 + 1)) l0_0 ((rd_T71 l0_0 x3_1).f0) ((rd_T71 l0_0 x3_1).f1) ((rd_T71 l0_0 x3_1).f2))) else (some false)) = some r := H
                        have A19 := Aside0.mk A190
                        clear A190
                        by_cases c20 : t927 = true
                        · subst c20
                          have H1 : (if x5_3 > 0 then (if 0 ≤ (wrap64 (x5_3 - 1)) then (if (wrap64 (x5_3 - 1)) < (((rd_T71 l0_0 x3_1).f2).length : Int) then (if ((rd_T142 ((rd_T71 l0_0 x3_1).f2) (wrap64 (x5_3 - 1))).f0) = 0 then (if ((rd_T142 ((rd_T71 l0_0 x3_1).f2) x5_3).f0) = 0 then (spec_FlashOk.l1 k3 x3_1 (wrap64 (x5_3 + 1)) l0_0 ((rd_T71 l0_0 x3_1).f0) ((rd_T71 l0_0 x3_1).f1) ((rd_T71 l0_0 x3_1).f2)) else (some false)) else (spec_FlashOk.l1 k3 x3_1 (wrap64 (x5_3 + 1)) l0_0 ((rd_T71 l0_0 x3_1).f0) ((rd_T71 l0_0 x3_1).f1) ((rd_T71 l0_0 x3_1).f2))) else (none)) else (none)) else (spec_FlashOk.l1 k3 x3_1 (wrap64 (x5_3 + 1)) l0_0 ((rd_T71 l0_0 x3_1).f0) ((rd_T71 l0_0 x3_1).f1) ((rd_T71 l0_0 x3_1).f2))) = some r := by rw [if_pos rfl] at H; exact H
                          clear H
                          have H := H1
                          clear H1
                          by_cases c21 : x5_3 > 0
                          · rw [if_pos c21] at H
                            have c21b0 : decide (0 < x5_3) = true := decide_eq_true c21
                            clear c21
                            obtain ⟨ji22, hji22⟩ : ∃ j_ : Int, (wrap64 (x5_3 - 1)) = j_ := ⟨_, rfl⟩
                            replace H : (if 0 ≤ (ji22) then (if (ji22) < (((rd_T71 l0_0 x3_1).f2).length : Int) then (if ((rd_T142 ((rd_T71 l0_0 x3_1).f2) (ji22)).f0) = 0 then (if ((rd_T142 ((rd_T71 l0_0 x3_1).f2) x5_3).f0) = 0 then (spec_FlashOk.l1 k3 x3_1 (wrap64 (x5_3 + 1)) l0_0 ((rd_T71 l0_0 x3_1).f0) ((rd_T71 l0_0 x3_1).f1) ((rd_T71 l0_0 x3_1).f2)) else (some false)) else (spec_FlashOk.l1 k3 x3_1 (wrap64 (x5_3 + 1)) l0_0 ((rd_T71 l0_0 x3_1).f0) ((rd_T71 l0_0 x3_1).f1) ((rd_T71 l0_0 x3_1).f2))) else (none)) else (none)) = some r := by first | (rw [hji22] at H; exact H) | (simp only [hji22] at H ⊢; exact H)
                            (try rw [hji22] at A19)
                            have hji22w : (IntKind.i64.wrap (x5_3 - 1)) = ji22 := (i64_w _).trans hji22
                            by_cases c23 : 0 ≤ (ji22)
                            · rw [if_pos c23] at H
                              have c23b0 : decide (0 ≤ (ji22)) = true := decide_eq_true c23
                              clear c23
                              by_cases c24 : (ji22) < (((rd_T71 l0_0 x3_1).f2).length : Int)
                              · rw [if_pos c24] at H
                                have c24b0 : decide ((ji22) < (((rd_T71 l0_0 x3_1).f2).length : Int)) = true := decide_eq_true c24
                                clear c24
                                by_cases c25 : ((rd_T142 ((rd_T71 l0_0 x3_1).f2) (ji22)).f0) = 0
                                · rw [if_pos c25] at H
                                  have c25b0 : (((rd_T142 ((rd_T71 l0_0 x3_1).f2) (ji22)).f0) == 0) = true := beq_iff_eq.mpr c25
                                  have c25b1 : (((rd_T142 ((rd_T71 l0_0 x3_1).f2) (ji22)).f0) != 0) = false := bne_eq_false_iff_eq.mpr c25
                                  clear c25
                                  by_cases c26 : ((rd_T142 ((rd_T71 l0_0 x3_1).f2) x5_3).f0) = 0
                                  · rw [if_pos c26] at H
                                    have c26b0 : (((rd_T142 ((rd_T71 l0_0 x3_1).f2) x5_3).f0) == 0) = true := beq_iff_eq.mpr c26
                                    have c26b1 : (((rd_T142 ((rd_T71 l0_0 x3_1).f2) x5_3).f0) != 0) = false := bne_eq_false_iff_eq.mpr c26
                                    clear c26
                                    have H' := Aside0.mk H
                                    clear H
                                    have hnb27 := NB924_921.out
                                    have hnc27 := NB921_924.out
                                    have hcz28_0 : wr.cell? ⟨gb924, 0, none⟩ = some (.bool ((rd_T71 l0_0 x3_1).f0)) := (blk_cell BK924.out 0).trans rfl
                                    have hcz28_1 : wr.cell? ⟨gb924, 1, none⟩ = some (.int .i64 ((rd_T71 l0_0 x3_1).f1)) := (blk_cell BK924.out 1).trans rfl
                                    have hcz28_2 : wr.cell? ⟨gb924, 2, none⟩ = some (.slice A923_2 ((rd_T71 l0_0 x3_1).f2).length c923_2) := (blk_cell BK924.out 2).trans rfl
                                    have hfz28_0 := blk_frozen BK924.out 0
                                    have hfz28_1 := blk_frozen BK924.out 1
                                    have hfz28_2 := blk_frozen BK924.out 2
                                    have p926 : 0 ≤ (x5_3 : Int) := of_decide_eq_true (by first | (with_reducible assumption) | assumption)
                                    have q926 : x5_3 < (((rd_T71 l0_0 x3_1).f2).length : Int) := of_decide_eq_true (by first | (with_reducible assumption) | assumption)
                                    obtain ⟨ad926, e926, hx926_0, hx926_1⟩ := at_T142 HR923_2.out x5_3 p926 q926
                                    cases e926
                                    replace hx926_0 := (HB.out.cell (World.block_lt_of_cell? w _ hx926_0)).trans hx926_0
                                    replace hx926_1 := (HB.out.cell (World.block_lt_of_cell? w _ hx926_1)).trans hx926_1
                                    replace p926 := eq_true p926
                                    replace q926 := eq_true q926
                                    go_wp2_with (first | ((with_reducible refine gate_callee (f := 151) rfl ?_); refine goesL_ (some 40) rfl rfl Try.func151 (by kernel_rfl) rfl #[.agg #[.int .i64 ((rd_T142 ((rd_T71 l0_0 x3_1).f2) x5_3).f0), .string ((rd_T142 ((rd_T71 l0_0 x3_1).f2) x5_3).f1)]] rfl (by (try simp only [List.map_toArray, List.map_cons, List.map_nil]); first | done | rfl | (simp only [List.length_drop, List.length_take]; rfl)) ?_; (with_reducible refine (spec_l05Leaf.calls ((rd_T142 ((rd_T71 l0_0 x3_1).f2) x5_3).f0) ((rd_T142 ((rd_T71 l0_0 x3_1).f2) x5_3).f1) true _ A19.out).mono ?_); rintro e w29 ⟨rfl, hb⟩; refine ⟨_, rfl, ?_⟩; have n0_ := Aside0.mk (blk_below (g := gb921) (o := .cells #[.slice (some ad923) l0_0.length c0_0] 63 (0, 0)) (by (with_reducible repeat (first | refine blk_drewN ?_ _ | refine blk_drew ?_ | refine blk_alloc ?_ _)); exact BK921.out) hb); have n1_ := Aside0.mk (blk_below (g := gb924) (o := .cells #[.bool ((rd_T71 l0_0 x3_1).f0), .int .i64 ((rd_T71 l0_0 x3_1).f1), .slice (some ad926) ((rd_T71 l0_0 x3_1).f2).length c923_2] 71 (0, 0)) (by (with_reducible repeat (first | refine blk_drewN ?_ _ | refine blk_drew ?_ | refine blk_alloc ?_ _)); exact BK924.out) hb); have n2_ := Aside0.mk (below_step (by repeat (first | (with_reducible first | exact HB.out | apply below_alloc | apply pw_below_drewN | apply below_drew1 | refine below_set ?_ GE921.out | refine below_set ?_ GE924.out) | exact HB.out)) hb); clear BK921; clear BK924; clear HB; have BK921 := n0_; have BK924 := n1_; have HB := n2_; clear n0_ n1_ n2_; (try clear hb); (try clear hb2); (try clear hk); (try clear hi); have hcz30_0 : w29.cell? ⟨gb924, 0, none⟩ = some (.bool ((rd_T71 l0_0 x3_1).f0)) := (blk_cell BK924.out 0).trans rfl; have hcz30_1 : w29.cell? ⟨gb924, 1, none⟩ = some (.int .i64 ((rd_T71 l0_0 x3_1).f1)) := (blk_cell BK924.out 1).trans rfl; have hcz30_2 : w29.cell? ⟨gb924, 2, none⟩ = some (.slice (some ad926) ((rd_T71 l0_0 x3_1).f2).length c923_2) := (blk_cell BK924.out 2).trans rfl; have hfz30_0 := blk_frozen BK924.out 0; have hfz30_1 := blk_frozen BK924.out 1; have hfz30_2 := blk_frozen BK924.out 2; have p928 : 0 ≤ ((ji22) : Int) := of_decide_eq_true (by first | (with_reducible assumption) | assumption); have q928 : (ji22) < (((rd_T71 l0_0 x3_1).f2).length : Int) := of_decide_eq_true (by first | (with_reducible assumption) | assumption); obtain ⟨ad928, e928, hx928_0, hx928_1⟩ := at_T142 HR923_2.out (ji22) p928 q928; obtain rfl : ad926 = ad928 := (by injection e928); replace hx928_0 := (HB.out.cell (World.block_lt_of_cell? w _ hx928_0)).trans hx928_0; replace hx928_1 := (HB.out.cell (World.block_lt_of_cell? w _ hx928_1)).trans hx928_1; replace p928 := eq_true p928; replace q928 := eq_true q928; have p929 : 0 ≤ (x5_3 : Int) := of_decide_eq_true (by first | (with_reducible assumption) | assumption); have q929 : x5_3 < (((rd_T71 l0_0 x3_1).f2).length : Int) := of_decide_eq_true (by first | (with_reducible assumption) | assumption); obtain ⟨ad929, e929, hx929_0, hx929_1⟩ := at_T142 HR923_2.out x5_3 p929 q929; obtain rfl : ad926 = ad929 := (by injection e929); replace hx929_0 := (HB.out.cell (World.block_lt_of_cell? w _ hx929_0)).trans hx929_0; replace hx929_1 := (HB.out.cell (World.block_lt_of_cell? w _ hx929_1)).trans hx929_1; replace p929 := eq_true p929; replace q929 := eq_true q929))
                                    go_roundg k3
                                    case measure => have := HK1.out; have := HJ4.out; have := HK3.out; omega
                                    case rel => exact ⟨(wrap64 (x5_3 + 1)), (by first | rfl | (simp; done) | (simp [*]; done)), H', ⟨by have := HK1.out; have := HJ4.out; have := HK3.out; omega⟩, ⟨by (with_reducible repeat (first | refine blk_drewN ?_ _ | refine blk_drew ?_ | refine blk_alloc ?_ _)); exact BK921.out⟩, ⟨by (with_reducible repeat (first | refine blk_drewN ?_ _ | refine blk_drew ?_ | refine blk_alloc ?_ _)); exact BK924.out⟩, ⟨by repeat (first | (with_reducible first | exact HB.out | apply below_alloc | apply pw_below_drewN | apply below_drew1 | refine below_set ?_ GE921.out | refine below_set ?_ GE924.out) | exact HB.out)⟩⟩
                                  · rw [if_neg c26] at H
                                    have c26b0 : (((rd_T142 ((rd_T71 l0_0 x3_1).f2) x5_3).f0) == 0) = false := beq_eq_false_iff_ne.mpr c26
                                    have c26b1 : (((rd_T142 ((rd_T71 l0_0 x3_1).f2) x5_3).f0) != 0) = true := bne_iff_ne.mpr c26
                                    obtain rfl := Option.some.inj H
                                    have hnb31 := NB924_921.out
                                    have hnc31 := NB921_924.out
                                    have hcz32_0 : wr.cell? ⟨gb924, 0, none⟩ = some (.bool ((rd_T71 l0_0 x3_1).f0)) := (blk_cell BK924.out 0).trans rfl
                                    have hcz32_1 : wr.cell? ⟨gb924, 1, none⟩ = some (.int .i64 ((rd_T71 l0_0 x3_1).f1)) := (blk_cell BK924.out 1).trans rfl
                                    have hcz32_2 : wr.cell? ⟨gb924, 2, none⟩ = some (.slice A923_2 ((rd_T71 l0_0 x3_1).f2).length c923_2) := (blk_cell BK924.out 2).trans rfl
                                    have hfz32_0 := blk_frozen BK924.out 0
                                    have hfz32_1 := blk_frozen BK924.out 1
                                    have hfz32_2 := blk_frozen BK924.out 2
                                    have p926 : 0 ≤ (x5_3 : Int) := of_decide_eq_true (by first | (with_reducible assumption) | assumption)
                                    have q926 : x5_3 < (((rd_T71 l0_0 x3_1).f2).length : Int) := of_decide_eq_true (by first | (with_reducible assumption) | assumption)
                                    obtain ⟨ad926, e926, hx926_0, hx926_1⟩ := at_T142 HR923_2.out x5_3 p926 q926
                                    cases e926
                                    replace hx926_0 := (HB.out.cell (World.block_lt_of_cell? w _ hx926_0)).trans hx926_0
                                    replace hx926_1 := (HB.out.cell (World.block_lt_of_cell? w _ hx926_1)).trans hx926_1
                                    replace p926 := eq_true p926
                                    replace q926 := eq_true q926
                                    go_wp2_with (first | ((with_reducible refine gate_callee (f := 151) rfl ?_); refine goesL_ (some 40) rfl rfl Try.func151 (by kernel_rfl) rfl #[.agg #[.int .i64 ((rd_T142 ((rd_T71 l0_0 x3_1).f2) x5_3).f0), .string ((rd_T142 ((rd_T71 l0_0 x3_1).f2) x5_3).f1)]] rfl (by (try simp only [List.map_toArray, List.map_cons, List.map_nil]); first | done | rfl | (simp only [List.length_drop, List.length_take]; rfl)) ?_; (with_reducible refine (spec_l05Leaf.calls ((rd_T142 ((rd_T71 l0_0 x3_1).f2) x5_3).f0) ((rd_T142 ((rd_T71 l0_0 x3_1).f2) x5_3).f1) true _ A19.out).mono ?_); rintro e w33 ⟨rfl, hb⟩; refine ⟨_, rfl, ?_⟩; have n0_ := Aside0.mk (blk_below (g := gb921) (o := .cells #[.slice (some ad923) l0_0.length c0_0] 63 (0, 0)) (by (with_reducible repeat (first | refine blk_drewN ?_ _ | refine blk_drew ?_ | refine blk_alloc ?_ _)); exact BK921.out) hb); have n1_ := Aside0.mk (blk_below (g := gb924) (o := .cells #[.bool ((rd_T71 l0_0 x3_1).f0), .int .i64 ((rd_T71 l0_0 x3_1).f1), .slice (some ad926) ((rd_T71 l0_0 x3_1).f2).length c923_2] 71 (0, 0)) (by (with_reducible repeat (first | refine blk_drewN ?_ _ | refine blk_drew ?_ | refine blk_alloc ?_ _)); exact BK924.out) hb); have n2_ := Aside0.mk (below_step (by repeat (first | (with_reducible first | exact HB.out | apply below_alloc | apply pw_below_drewN | apply below_drew1 | refine below_set ?_ GE921.out | refine below_set ?_ GE924.out) | exact HB.out)) hb); clear BK921; clear BK924; clear HB; have BK921 := n0_; have BK924 := n1_; have HB := n2_; clear n0_ n1_ n2_; (try clear hb); (try clear hb2); (try clear hk); (try clear hi); have hcz34_0 : w33.cell? ⟨gb924, 0, none⟩ = some (.bool ((rd_T71 l0_0 x3_1).f0)) := (blk_cell BK924.out 0).trans rfl; have hcz34_1 : w33.cell? ⟨gb924, 1, none⟩ = some (.int .i64 ((rd_T71 l0_0 x3_1).f1)) := (blk_cell BK924.out 1).trans rfl; have hcz34_2 : w33.cell? ⟨gb924, 2, none⟩ = some (.slice (some ad926) ((rd_T71 l0_0 x3_1).f2).length c923_2) := (blk_cell BK924.out 2).trans rfl; have hfz34_0 := blk_frozen BK924.out 0; have hfz34_1 := blk_frozen BK924.out 1; have hfz34_2 := blk_frozen BK924.out 2; have p928 : 0 ≤ ((ji22) : Int) := of_decide_eq_true (by first | (with_reducible assumption) | assumption); have q928 : (ji22) < (((rd_T71 l0_0 x3_1).f2).length : Int) := of_decide_eq_true (by first | (with_reducible assumption) | assumption); obtain ⟨ad928, e928, hx928_0, hx928_1⟩ := at_T142 HR923_2.out (ji22) p928 q928; obtain rfl : ad926 = ad928 := (by injection e928); replace hx928_0 := (HB.out.cell (World.block_lt_of_cell? w _ hx928_0)).trans hx928_0; replace hx928_1 := (HB.out.cell (World.block_lt_of_cell? w _ hx928_1)).trans hx928_1; replace p928 := eq_true p928; replace q928 := eq_true q928; have p929 : 0 ≤ (x5_3 : Int) := of_decide_eq_true (by first | (with_reducible assumption) | assumption); have q929 : x5_3 < (((rd_T71 l0_0 x3_1).f2).length : Int) := of_decide_eq_true (by first | (with_reducible assumption) | assumption); obtain ⟨ad929, e929, hx929_0, hx929_1⟩ := at_T142 HR923_2.out x5_3 p929 q929; obtain rfl : ad926 = ad929 := (by injection e929); replace hx929_0 := (HB.out.cell (World.block_lt_of_cell? w _ hx929_0)).trans hx929_0; replace hx929_1 := (HB.out.cell (World.block_lt_of_cell? w _ hx929_1)).trans hx929_1; replace p929 := eq_true p929; replace q929 := eq_true q929))
                                    go_ret
                                    exact ⟨by first | rfl | (simp [errW_none, errW_some] <;> rfl) | (simp only [← hji22]; first | rfl | (simp [errW_none, errW_some] <;> rfl)) | (simp [*, errW_none, errW_some] <;> rfl), by repeat (first | (with_reducible first | exact HB.out | apply below_alloc | apply pw_below_drewN | apply below_drew1 | refine below_set ?_ GE921.out | refine below_set ?_ GE924.out) | exact HB.out)⟩
                                · rw [if_neg c25] at H
                                  have c25b0 : (((rd_T142 ((rd_T71 l0_0 x3_1).f2) (ji22)).f0) == 0) = false := beq_eq_false_iff_ne.mpr c25
                                  have c25b1 : (((rd_T142 ((rd_T71 l0_0 x3_1).f2) (ji22)).f0) != 0) = true := bne_iff_ne.mpr c25
                                  have H' := Aside0.mk H
                                  clear H
                                  have hnb35 := NB924_921.out
                                  have hnc35 := NB921_924.out
                                  have hcz36_0 : wr.cell? ⟨gb924, 0, none⟩ = some (.bool ((rd_T71 l0_0 x3_1).f0)) := (blk_cell BK924.out 0).trans rfl
                                  have hcz36_1 : wr.cell? ⟨gb924, 1, none⟩ = some (.int .i64 ((rd_T71 l0_0 x3_1).f1)) := (blk_cell BK924.out 1).trans rfl
                                  have hcz36_2 : wr.cell? ⟨gb924, 2, none⟩ = some (.slice A923_2 ((rd_T71 l0_0 x3_1).f2).length c923_2) := (blk_cell BK924.out 2).trans rfl
                                  have hfz36_0 := blk_frozen BK924.out 0
                                  have hfz36_1 := blk_frozen BK924.out 1
                                  have hfz36_2 := blk_frozen BK924.out 2
                                  have p926 : 0 ≤ (x5_3 : Int) := of_decide_eq_true (by first | (with_reducible assumption) | assumption)
                                  have q926 : x5_3 < (((rd_T71 l0_0 x3_1).f2).length : Int) := of_decide_eq_true (by first | (with_reducible assumption) | assumption)
                                  obtain ⟨ad926, e926, hx926_0, hx926_1⟩ := at_T142 HR923_2.out x5_3 p926 q926
                                  cases e926
                                  replace hx926_0 := (HB.out.cell (World.block_lt_of_cell? w _ hx926_0)).trans hx926_0
                                  replace hx926_1 := (HB.out.cell (World.block_lt_of_cell? w _ hx926_1)).trans hx926_1
                                  replace p926 := eq_true p926
                                  replace q926 := eq_true q926
                                  go_wp2_with (first | ((with_reducible refine gate_callee (f := 151) rfl ?_); refine goesL_ (some 40) rfl rfl Try.func151 (by kernel_rfl) rfl #[.agg #[.int .i64 ((rd_T142 ((rd_T71 l0_0 x3_1).f2) x5_3).f0), .string ((rd_T142 ((rd_T71 l0_0 x3_1).f2) x5_3).f1)]] rfl (by (try simp only [List.map_toArray, List.map_cons, List.map_nil]); first | done | rfl | (simp only [List.length_drop, List.length_take]; rfl)) ?_; (with_reducible refine (spec_l05Leaf.calls ((rd_T142 ((rd_T71 l0_0 x3_1).f2) x5_3).f0) ((rd_T142 ((rd_T71 l0_0 x3_1).f2) x5_3).f1) true _ A19.out).mono ?_); rintro e w37 ⟨rfl, hb⟩; refine ⟨_, rfl, ?_⟩; have n0_ := Aside0.mk (blk_below (g := gb921) (o := .cells #[.slice (some ad923) l0_0.length c0_0] 63 (0, 0)) (by (with_reducible repeat (first | refine blk_drewN ?_ _ | refine blk_drew ?_ | refine blk_alloc ?_ _)); exact BK921.out) hb); have n1_ := Aside0.mk (blk_below (g := gb924) (o := .cells #[.bool ((rd_T71 l0_0 x3_1).f0), .int .i64 ((rd_T71 l0_0 x3_1).f1), .slice (some ad926) ((rd_T71 l0_0 x3_1).f2).length c923_2] 71 (0, 0)) (by (with_reducible repeat (first | refine blk_drewN ?_ _ | refine blk_drew ?_ | refine blk_alloc ?_ _)); exact BK924.out) hb); have n2_ := Aside0.mk (below_step (by repeat (first | (with_reducible first | exact HB.out | apply below_alloc | apply pw_below_drewN | apply below_drew1 | refine below_set ?_ GE921.out | refine below_set ?_ GE924.out) | exact HB.out)) hb); clear BK921; clear BK924; clear HB; have BK921 := n0_; have BK924 := n1_; have HB := n2_; clear n0_ n1_ n2_; (try clear hb); (try clear hb2); (try clear hk); (try clear hi); have hcz38_0 : w37.cell? ⟨gb924, 0, none⟩ = some (.bool ((rd_T71 l0_0 x3_1).f0)) := (blk_cell BK924.out 0).trans rfl; have hcz38_1 : w37.cell? ⟨gb924, 1, none⟩ = some (.int .i64 ((rd_T71 l0_0 x3_1).f1)) := (blk_cell BK924.out 1).trans rfl; have hcz38_2 : w37.cell? ⟨gb924, 2, none⟩ = some (.slice (some ad926) ((rd_T71 l0_0 x3_1).f2).length c923_2) := (blk_cell BK924.out 2).trans rfl; have hfz38_0 := blk_frozen BK924.out 0; have hfz38_1 := blk_frozen BK924.out 1; have hfz38_2 := blk_frozen BK924.out 2; have p928 : 0 ≤ ((ji22) : Int) := of_decide_eq_true (by first | (with_reducible assumption) | assumption); have q928 : (ji22) < (((rd_T71 l0_0 x3_1).f2).length : Int) := of_decide_eq_true (by first | (with_reducible assumption) | assumption); obtain ⟨ad928, e928, hx928_0, hx928_1⟩ := at_T142 HR923_2.out (ji22) p928 q928; obtain rfl : ad926 = ad928 := (by injection e928); replace hx928_0 := (HB.out.cell (World.block_lt_of_cell? w _ hx928_0)).trans hx928_0; replace hx928_1 := (HB.out.cell (World.block_lt_of_cell? w _ hx928_1)).trans hx928_1; replace p928 := eq_true p928; replace q928 := eq_true q928))
                                  go_roundg k3
                                  case measure => have := HK1.out; have := HJ4.out; have := HK3.out; omega
                                  case rel => exact ⟨(wrap64 (x5_3 + 1)), (by first | rfl | (simp; done) | (simp [*]; done)), H', ⟨by have := HK1.out; have := HJ4.out; have := HK3.out; omega⟩, ⟨by (with_reducible repeat (first | refine blk_drewN ?_ _ | refine blk_drew ?_ | refine blk_alloc ?_ _)); exact BK921.out⟩, ⟨by (with_reducible repeat (first | refine blk_drewN ?_ _ | refine blk_drew ?_ | refine blk_alloc ?_ _)); exact BK924.out⟩, ⟨by repeat (first | (with_reducible first | exact HB.out | apply below_alloc | apply pw_below_drewN | apply below_drew1 | refine below_set ?_ GE921.out | refine below_set ?_ GE924.out) | exact HB.out)⟩⟩
                              · rw [if_neg c24] at H
                                exact absurd H (by simp)
                            · rw [if_neg c23] at H
                              exact absurd H (by simp)
                          · rw [if_neg c21] at H
                            have c21b0 : decide (0 < x5_3) = false := decide_eq_false c21
                            clear c21
                            have H' := Aside0.mk H
                            clear H
                            have hnb39 := NB924_921.out
                            have hnc39 := NB921_924.out
                            have hcz40_0 : wr.cell? ⟨gb924, 0, none⟩ = some (.bool ((rd_T71 l0_0 x3_1).f0)) := (blk_cell BK924.out 0).trans rfl
                            have hcz40_1 : wr.cell? ⟨gb924, 1, none⟩ = some (.int .i64 ((rd_T71 l0_0 x3_1).f1)) := (blk_cell BK924.out 1).trans rfl
                            have hcz40_2 : wr.cell? ⟨gb924, 2, none⟩ = some (.slice A923_2 ((rd_T71 l0_0 x3_1).f2).length c923_2) := (blk_cell BK924.out 2).trans rfl
                            have hfz40_0 := blk_frozen BK924.out 0
                            have hfz40_1 := blk_frozen BK924.out 1
                            have hfz40_2 := blk_frozen BK924.out 2
                            have p926 : 0 ≤ (x5_3 : Int) := of_decide_eq_true (by first | (with_reducible assumption) | assumption)
                            have q926 : x5_3 < (((rd_T71 l0_0 x3_1).f2).length : Int) := of_decide_eq_true (by first | (with_reducible assumption) | assumption)
                            obtain ⟨ad926, e926, hx926_0, hx926_1⟩ := at_T142 HR923_2.out x5_3 p926 q926
                            cases e926
                            replace hx926_0 := (HB.out.cell (World.block_lt_of_cell? w _ hx926_0)).trans hx926_0
                            replace hx926_1 := (HB.out.cell (World.block_lt_of_cell? w _ hx926_1)).trans hx926_1
                            replace p926 := eq_true p926
                            replace q926 := eq_true q926
                            go_wp2_with (first | ((with_reducible refine gate_callee (f := 151) rfl ?_); refine goesL_ (some 40) rfl rfl Try.func151 (by kernel_rfl) rfl #[.agg #[.int .i64 ((rd_T142 ((rd_T71 l0_0 x3_1).f2) x5_3).f0), .string ((rd_T142 ((rd_T71 l0_0 x3_1).f2) x5_3).f1)]] rfl (by (try simp only [List.map_toArray, List.map_cons, List.map_nil]); first | done | rfl | (simp only [List.length_drop, List.length_take]; rfl)) ?_; (with_reducible refine (spec_l05Leaf.calls ((rd_T142 ((rd_T71 l0_0 x3_1).f2) x5_3).f0) ((rd_T142 ((rd_T71 l0_0 x3_1).f2) x5_3).f1) true _ A19.out).mono ?_); rintro e w41 ⟨rfl, hb⟩; refine ⟨_, rfl, ?_⟩; have n0_ := Aside0.mk (blk_below (g := gb921) (o := .cells #[.slice (some ad923) l0_0.length c0_0] 63 (0, 0)) (by (with_reducible repeat (first | refine blk_drewN ?_ _ | refine blk_drew ?_ | refine blk_alloc ?_ _)); exact BK921.out) hb); have n1_ := Aside0.mk (blk_below (g := gb924) (o := .cells #[.bool ((rd_T71 l0_0 x3_1).f0), .int .i64 ((rd_T71 l0_0 x3_1).f1), .slice (some ad926) ((rd_T71 l0_0 x3_1).f2).length c923_2] 71 (0, 0)) (by (with_reducible repeat (first | refine blk_drewN ?_ _ | refine blk_drew ?_ | refine blk_alloc ?_ _)); exact BK924.out) hb); have n2_ := Aside0.mk (below_step (by repeat (first | (with_reducible first | exact HB.out | apply below_alloc | apply pw_below_drewN | apply below_drew1 | refine below_set ?_ GE921.out | refine below_set ?_ GE924.out) | exact HB.out)) hb); clear BK921; clear BK924; clear HB; have BK921 := n0_; have BK924 := n1_; have HB := n2_; clear n0_ n1_ n2_; (try clear hb); (try clear hb2); (try clear hk); (try clear hi)))
                            go_roundg k3
                            case measure => have := HK1.out; have := HJ4.out; have := HK3.out; omega
                            case rel => exact ⟨(wrap64 (x5_3 + 1)), (by first | rfl | (simp; done) | (simp [*]; done)), H', ⟨by have := HK1.out; have := HJ4.out; have := HK3.out; omega⟩, ⟨by (with_reducible repeat (first | refine blk_drewN ?_ _ | refine blk_drew ?_ | refine blk_alloc ?_ _)); exact BK921.out⟩, ⟨by (with_reducible repeat (first | refine blk_drewN ?_ _ | refine blk_drew ?_ | refine blk_alloc ?_ _)); exact BK924.out⟩, ⟨by repeat (first | (with_reducible first | exact HB.out | apply below_alloc | apply pw_below_drewN | apply below_drew1 | refine below_set ?_ GE921.out | refine below_set ?_ GE924.out) | exact HB.out)⟩⟩
                        · replace c20 := Bool.eq_false_iff.mpr c20
                          subst c20
                          have H1 : (some false) = some r := by rw [if_neg (show ¬ (false = true) by decide)] at H; exact H
                          clear H
                          have H := H1
                          clear H1
                          obtain rfl := Option.some.inj H
                          have hnb42 := NB924_921.out
                          have hnc42 := NB921_924.out
                          have hcz43_0 : wr.cell? ⟨gb924, 0, none⟩ = some (.bool ((rd_T71 l0_0 x3_1).f0)) := (blk_cell BK924.out 0).trans rfl
                          have hcz43_1 : wr.cell? ⟨gb924, 1, none⟩ = some (.int .i64 ((rd_T71 l0_0 x3_1).f1)) := (blk_cell BK924.out 1).trans rfl
                          have hcz43_2 : wr.cell? ⟨gb924, 2, none⟩ = some (.slice A923_2 ((rd_T71 l0_0 x3_1).f2).length c923_2) := (blk_cell BK924.out 2).trans rfl
                          have hfz43_0 := blk_frozen BK924.out 0
                          have hfz43_1 := blk_frozen BK924.out 1
                          have hfz43_2 := blk_frozen BK924.out 2
                          have p926 : 0 ≤ (x5_3 : Int) := of_decide_eq_true (by first | (with_reducible assumption) | assumption)
                          have q926 : x5_3 < (((rd_T71 l0_0 x3_1).f2).length : Int) := of_decide_eq_true (by first | (with_reducible assumption) | assumption)
                          obtain ⟨ad926, e926, hx926_0, hx926_1⟩ := at_T142 HR923_2.out x5_3 p926 q926
                          cases e926
                          replace hx926_0 := (HB.out.cell (World.block_lt_of_cell? w _ hx926_0)).trans hx926_0
                          replace hx926_1 := (HB.out.cell (World.block_lt_of_cell? w _ hx926_1)).trans hx926_1
                          replace p926 := eq_true p926
                          replace q926 := eq_true q926
                          go_wp2_with (first | ((with_reducible refine gate_callee (f := 151) rfl ?_); refine goesL_ (some 40) rfl rfl Try.func151 (by kernel_rfl) rfl #[.agg #[.int .i64 ((rd_T142 ((rd_T71 l0_0 x3_1).f2) x5_3).f0), .string ((rd_T142 ((rd_T71 l0_0 x3_1).f2) x5_3).f1)]] rfl (by (try simp only [List.map_toArray, List.map_cons, List.map_nil]); first | done | rfl | (simp only [List.length_drop, List.length_take]; rfl)) ?_; (with_reducible refine (spec_l05Leaf.calls ((rd_T142 ((rd_T71 l0_0 x3_1).f2) x5_3).f0) ((rd_T142 ((rd_T71 l0_0 x3_1).f2) x5_3).f1) false _ A19.out).mono ?_); rintro e w44 ⟨rfl, hb⟩; refine ⟨_, rfl, ?_⟩; have n0_ := Aside0.mk (blk_below (g := gb921) (o := .cells #[.slice (some ad923) l0_0.length c0_0] 63 (0, 0)) (by (with_reducible repeat (first | refine blk_drewN ?_ _ | refine blk_drew ?_ | refine blk_alloc ?_ _)); exact BK921.out) hb); have n1_ := Aside0.mk (blk_below (g := gb924) (o := .cells #[.bool ((rd_T71 l0_0 x3_1).f0), .int .i64 ((rd_T71 l0_0 x3_1).f1), .slice (some ad926) ((rd_T71 l0_0 x3_1).f2).length c923_2] 71 (0, 0)) (by (with_reducible repeat (first | refine blk_drewN ?_ _ | refine blk_drew ?_ | refine blk_alloc ?_ _)); exact BK924.out) hb); have n2_ := Aside0.mk (below_step (by repeat (first | (with_reducible first | exact HB.out | apply below_alloc | apply pw_below_drewN | apply below_drew1 | refine below_set ?_ GE921.out | refine below_set ?_ GE924.out) | exact HB.out)) hb); clear BK921; clear BK924; clear HB; have BK921 := n0_; have BK924 := n1_; have HB := n2_; clear n0_ n1_ n2_; (try clear hb); (try clear hb2); (try clear hk); (try clear hi)))
                          go_ret
                          exact ⟨by first | rfl | (simp [errW_none, errW_some] <;> rfl) | (simp [*, errW_none, errW_some] <;> rfl), by repeat (first | (with_reducible first | exact HB.out | apply below_alloc | apply pw_below_drewN | apply below_drew1 | refine below_set ?_ GE921.out | refine below_set ?_ GE924.out) | exact HB.out)⟩
                      · rw [if_neg c18] at H
                        exact absurd H (by simp)
                    · rw [if_neg c17] at H
                      have c17b0 : decide (x5_3 < (((rd_T71 l0_0 x3_1).f2).length : Int)) = false := decide_eq_false c17
                      clear c17
                      have H' := Aside0.mk H
                      clear H
                      have hnb45 := NB924_921.out
                      have hnc45 := NB921_924.out
                      have hcz46_0 : wr.cell? ⟨gb924, 0, none⟩ = some (.bool ((rd_T71 l0_0 x3_1).f0)) := (blk_cell BK924.out 0).trans rfl
                      have hcz46_1 : wr.cell? ⟨gb924, 1, none⟩ = some (.int .i64 ((rd_T71 l0_0 x3_1).f1)) := (blk_cell BK924.out 1).trans rfl
                      have hcz46_2 : wr.cell? ⟨gb924, 2, none⟩ = some (.slice A923_2 ((rd_T71 l0_0 x3_1).f2).length c923_2) := (blk_cell BK924.out 2).trans rfl
                      have hfz46_0 := blk_frozen BK924.out 0
                      have hfz46_1 := blk_frozen BK924.out 1
                      have hfz46_2 := blk_frozen BK924.out 2
                      go_wp2
                      go_roundg k3
                      case measure => have := HK1.out; have := HJ4.out; have := HK3.out; omega
                      case rel => exact ⟨(wrap64 (x3_1 + 1)), (by first | rfl | (simp; done) | (simp [*]; done)), H', ⟨by have := HK1.out; have := HJ4.out; have := HK3.out; omega⟩, ⟨by (with_reducible repeat (first | refine blk_drewN ?_ _ | refine blk_drew ?_ | refine blk_alloc ?_ _)); exact BK921.out⟩, ⟨by repeat (first | (with_reducible first | exact HB.out | apply below_alloc | apply pw_below_drewN | apply below_drew1 | refine below_set ?_ GE921.out | refine below_set ?_ GE924.out) | exact HB.out)⟩⟩
        · rw [if_neg c4] at H
          exact absurd H (by simp)
      · rw [if_neg c3] at H
        have c3b0 : decide (x3_1 < (l0_0.length : Int)) = false := decide_eq_false c3
        clear c3
        replace H := Option.bind_eq_some_iff.mp H
        obtain ⟨t922, A470, H⟩ := H
        replace H : (some t922) = some r := H
        have A47 := Aside0.mk A470
        clear A470
        obtain rfl := Option.some.inj H
        have hcz48_0 : wr.cell? ⟨gb921, 0, none⟩ = some (.slice A0_0 l0_0.length c0_0) := (blk_cell BK921.out 0).trans rfl
        have hfz48_0 := blk_frozen BK921.out 0
        go_wp2_with (first | ((with_reducible refine gate_callee (f := 86) rfl ?_); refine goesL_ (some 68) rfl rfl Try.func86 (by kernel_rfl) rfl #[.int .i64 (l0_0.length : Int), .int .i64 3, .int .i64 10] rfl (by (try simp only [List.map_toArray, List.map_cons, List.map_nil]); first | done | rfl | (simp only [List.length_drop, List.length_take]; rfl)) ?_; (with_reducible refine (spec_l01In.calls (l0_0.length : Int) 3 10 t922 _ A47.out).mono ?_); rintro e w' ⟨rfl, ⟨nd, rfl⟩⟩; refine ⟨_, rfl, ?_⟩))
        go_ret
        exact ⟨by first | rfl | (simp [errW_none, errW_some] <;> rfl) | (simp [*, errW_none, errW_some] <;> rfl), by repeat (first | (with_reducible first | exact HB.out | apply below_alloc | apply pw_below_drewN | apply below_drew1 | refine below_set ?_ GE921.out) | exact HB.out)⟩

end Go.Proofs.Ytdolplcbokioaaa.PB

/- Functions of the translation as plain Lean functions, and for each that its call comes to just what its Lean function answers; its conditions stand in each theorem. Written by a program of this session. -/
namespace Go.Proofs.Ytdolplcbokioaaa.PB
open Go.RowKit Go.Proofs.YtdolplcbokioaaaW.PrintWords Go.Proofs.YtdolplcbokioaaaW.PrintLast Go.Proofs.YtdolplcbokioaaaW.PrintMore
attribute [local go_sem] max2_int min2_int max_two min_two max_three min_three max_four min_four   -- for this text's walks alone
set_option linter.unusedVariables false
set_option linter.unusedSimpArgs false

/-! ### spec_OpenBlock: function 130 -/
mutual
def spec_OpenBlock.l0 : Nat → Int → List (S71) → Option (Int)
  | 0, _, _ => none
  | k + 1, x3, x1468000 => if x3 < (x1468000.length : Int) then (spec_OpenBlock.l1 k x3 0 0 0 x1468000) else (some (-1))
def spec_OpenBlock.l1 : Nat → Int → Int → Int → Int → List (S71) → Option (Int)
  | 0, _, _, _, _, _ => none
  | k + 1, x3, x4, x5, x6, x1468000 => if 0 ≤ x3 then (if x3 < (x1468000.length : Int) then (if x6 < (((rd_T71 x1468000 x3).f2).length : Int) then (if 0 ≤ x6 then (if ((rd_T142 ((rd_T71 x1468000 x3).f2) x6).f0) = 0 then (spec_OpenBlock.l1 k x3 (wrap64 (x4 + 1)) x5 (wrap64 (x6 + 1)) x1468000) else (spec_OpenBlock.l1 k x3 x4 (wrap64 (x5 + 1)) (wrap64 (x6 + 1)) x1468000)) else (none)) else (if ((rd_T71 x1468000 x3).f0 = true) then (spec_OpenBlock.l0 k (wrap64 (x3 + 1)) x1468000) else (if x4 > 0 then (if x5 > 0 then (some x3) else (spec_OpenBlock.l0 k (wrap64 (x3 + 1)) x1468000)) else (spec_OpenBlock.l0 k (wrap64 (x3 + 1)) x1468000)))) else (none)) else (none)
end
def spec_OpenBlock.f (k : Nat) (l0_0 : List (S71)) : Option (Int) := spec_OpenBlock.l0 k 0 l0_0
theorem spec_OpenBlock.mono_l : ∀ k, (∀ y0 y1, LeO (spec_OpenBlock.l0 k y0 y1) (spec_OpenBlock.l0 (k + 1) y0 y1)) ∧ (∀ y0 y1 y2 y3 y4, LeO (spec_OpenBlock.l1 k y0 y1 y2 y3 y4) (spec_OpenBlock.l1 (k + 1) y0 y1 y2 y3 y4))
  | 0 => ⟨fun _ _ r h => by simp [spec_OpenBlock.l0] at h, fun _ _ _ _ _ r h => by simp [spec_OpenBlock.l1] at h⟩
  | k + 1 => by
    obtain ⟨ih0, ih1⟩ := spec_OpenBlock.mono_l k
    refine ⟨?_, ?_⟩
    · intro y0 y1
      unfold spec_OpenBlock.l0
      repeat' first
      | (with_reducible exact ih0 _ _)
      | (with_reducible exact ih1 _ _ _ _ _)
      | (with_reducible exact LeO.refl _)
      | (with_reducible exact LeO.none _)
      | (with_reducible refine LeO.ite ?_ ?_)
      | (with_reducible refine LeO.bind ?_ (fun _ => ?_))
      | exact ih0 _ _
      | exact ih1 _ _ _ _ _
      | exact LeO.none _
      | refine LeO.ite ?_ ?_
      | refine LeO.bind ?_ (fun _ => ?_)
    · intro y0 y1 y2 y3 y4
      unfold spec_OpenBlock.l1
      repeat' first
      | (with_reducible exact ih0 _ _)
      | (with_reducible exact ih1 _ _ _ _ _)
      | (with_reducible exact LeO.refl _)
      | (with_reducible exact LeO.none _)
      | (with_reducible refine LeO.ite ?_ ?_)
      | (with_reducible refine LeO.bind ?_ (fun _ => ?_))
      | exact ih0 _ _
      | exact ih1 _ _ _ _ _
      | exact LeO.none _
      | refine LeO.ite ?_ ?_
      | refine LeO.bind ?_ (fun _ => ?_)
theorem spec_OpenBlock.mono : ∀ a0 k, LeO (spec_OpenBlock.f k a0) (spec_OpenBlock.f (k + 1) a0) := by
  intro a0 k
  obtain ⟨ih0, ih1⟩ := spec_OpenBlock.mono_l k
  unfold spec_OpenBlock.f
  repeat' first
      | (with_reducible exact ih0 _ _)
      | (with_reducible exact ih1 _ _ _ _ _)
      | (with_reducible exact LeO.refl _)
      | (with_reducible exact LeO.none _)
      | (with_reducible refine LeO.ite ?_ ?_)
      | (with_reducible refine LeO.bind ?_ (fun _ => ?_))
      | exact ih0 _ _
      | exact ih1 _ _ _ _ _
      | exact LeO.none _
      | refine LeO.ite ?_ ?_
      | refine LeO.bind ?_ (fun _ => ?_)
set_option maxHeartbeats 8000000 in
set_option maxRecDepth 100000 in
theorem spec_OpenBlock.calls (k : Nat) (A0_0 : Option Addr) (c0_0 : Nat) (l0_0 : List (S71)) (r : Int) (w : World) (hr0_0 : Kd.C k71 w A0_0 l0_0.length l0_0) (hc0_0 : l0_0.length ≤ c0_0) (h : spec_OpenBlock.f k l0_0 = some r) :
    Calls Try.prog 130 #[.agg #[.slice A0_0 l0_0.length c0_0]] w fun e w' => e = .returned (.int .i64 r) ∧ Below w.heap.size w w' := by
  have hu63 := Try.underlying63
  have HR0_0 := Aside0.mk hr0_0
  have HC0_0 := Aside0.mk hc0_0
  clear hr0_0 hc0_0
  have HB := Aside0.mk (Below.refl w.heap.size w)
  have H : (spec_OpenBlock.l0 k 0 l0_0) = some r := h
  clear h
  have H' := Aside0.mk H
  clear H
  go_enter Try.func130, Try.ntmps130
  go_wp2_with (first | ((with_reducible refine gate_dst (N := 1) rfl ?_); refine box_event ?hg (N := 1) ?hd (cs := #[.slice A0_0 l0_0.length c0_0]) (t := 63) ?hr ?_; (case hd => rfl); (case hg => rfl); (case hr => first | (go_simp; done) | (go_simp; rfl)); intro gb1467 hg w2 hbox hb; have n0_ := Aside0.mk (below_step (by repeat (first | (with_reducible first | exact HB.out | apply below_alloc | apply pw_below_drewN | apply below_drew1) | exact HB.out)) hb); have n1_ := Aside0.mk (hbox); have n2_ := Aside0.mk ((by rw [hg]; exact (below_size (by repeat (first | (with_reducible first | exact HB.out | apply below_alloc | apply pw_below_drewN | apply below_drew1) | exact HB.out))) : w.heap.size ≤ gb1467)); have n3_ := Aside0.mk ((by rw [hg]; exact (below_size (by repeat (first | (with_reducible first | exact HB.out | apply below_alloc | apply pw_below_drewN | apply below_drew1) | exact HB.out))) : w.heap.size ≤ gb1467)); clear HB; have HB := n0_; have BK1467 := n1_; have GW1467 := n2_; have GE1467 := n3_; clear n0_ n1_ n2_ n3_; clear hb hbox hg))
  go_loopg [3] k (fun kq v3 w' => ∃ (x3_1 : Int), v3 = .int .i64 x3_1 ∧ Aside0 (spec_OpenBlock.l0 kq x3_1 l0_0 = some r) ∧ Aside0 (kq ≤ k) ∧ Aside0 (w'.heap[gb1467]? = some (.cells #[(.slice A0_0 l0_0.length c0_0)] 63 (0, 0))) ∧ Aside0 (Below w.heap.size w w'))
  case atStart => exact ⟨(0), (by first | rfl | (simp; done) | (simp [*]; done)), H', ⟨Nat.le_refl _⟩, ⟨by (with_reducible repeat (first | refine blk_drewN ?_ _ | refine blk_drew ?_ | refine blk_alloc ?_ _)); exact BK1467.out⟩, ⟨by repeat (first | (with_reducible first | exact HB.out | apply below_alloc | apply pw_below_drewN | apply below_drew1 | refine below_set ?_ GE1467.out) | exact HB.out)⟩⟩
  case round =>
    clear H'
    try clear c1
    try clear p2
    obtain ⟨x3_1, rfl, HA, HK1, BK1467, HB⟩ := hrel
    cases gk with
    | zero => exact absurd HA.out (by simp [spec_OpenBlock.l0])
    | succ k1 =>
      have H := HA.out
      clear HA
      simp only [spec_OpenBlock.l0] at H
      by_cases c3 : x3_1 < (l0_0.length : Int)
      · rw [if_pos c3] at H
        have c3b0 : decide (x3_1 < (l0_0.length : Int)) = true := decide_eq_true c3
        clear c3
        have H' := Aside0.mk H
        clear H
        have hcz4_0 : wr.cell? ⟨gb1467, 0, none⟩ = some (.slice A0_0 l0_0.length c0_0) := (blk_cell BK1467.out 0).trans rfl
        have hfz4_0 := blk_frozen BK1467.out 0
        go_wp2
        go_loopg [4, 5, 6] k1 (fun kq v4 v5 v6 w' => ∃ (x4_2 : Int) (x5_2 : Int) (x6_2 : Int), v4 = .int .i64 x4_2 ∧ v5 = .int .i64 x5_2 ∧ v6 = .int .i64 x6_2 ∧ Aside0 (spec_OpenBlock.l1 kq x3_1 x4_2 x5_2 x6_2 l0_0 = some r) ∧ Aside0 (kq ≤ k1) ∧ Aside0 (w'.heap[gb1467]? = some (.cells #[(.slice A0_0 l0_0.length c0_0)] 63 (0, 0))) ∧ Aside0 (Below w.heap.size w w'))
        case atStart => exact ⟨(0), (0), (0), (by first | rfl | (simp; done) | (simp [*]; done)), (by first | rfl | (simp; done) | (simp [*]; done)), (by first | rfl | (simp; done) | (simp [*]; done)), H', ⟨Nat.le_refl _⟩, ⟨by (with_reducible repeat (first | refine blk_drewN ?_ _ | refine blk_drew ?_ | refine blk_alloc ?_ _)); exact BK1467.out⟩, ⟨by repeat (first | (with_reducible first | exact HB.out | apply below_alloc | apply pw_below_drewN | apply below_drew1 | refine below_set ?_ GE1467.out) | exact HB.out)⟩⟩
        case round =>
          clear H'
          try clear c1
          try clear p2
          try clear c3
          try clear c3b0
          try clear hcz4_0
          try clear hfz4_0
          try clear p2
          obtain ⟨x4_2, x5_2, x6_2, rfl, rfl, rfl, HA, HK2, BK1467, HB⟩ := hrel
          cases gk with
          | zero => exact absurd HA.out (by simp [spec_OpenBlock.l1])
          | succ k2 =>
            have H := HA.out
            clear HA
            simp only [spec_OpenBlock.l1] at H
            by_cases c5 : 0 ≤ x3_1
            · rw [if_pos c5] at H
              have c5b0 : decide (0 ≤ x3_1) = true := decide_eq_true c5
              clear c5
              by_cases c6 : x3_1 < (l0_0.length : Int)
              · rw [if_pos c6] at H
                have c6b0 : decide (x3_1 < (l0_0.length : Int)) = true := decide_eq_true c6
                clear c6
                by_cases c7 : x6_2 < (((rd_T71 l0_0 x3_1).f2).length : Int)
                · rw [if_pos c7] at H
                  have c7b0 : decide (x6_2 < (((rd_T71 l0_0 x3_1).f2).length : Int)) = true := decide_eq_true c7
                  clear c7
                  by_cases c8 : 0 ≤ x6_2
                  · rw [if_pos c8] at H
                    have c8b0 : decide (0 ≤ x6_2) = true := decide_eq_true c8
                    clear c8
                    by_cases c9 : ((rd_T142 ((rd_T71 l0_0 x3_1).f2) x6_2).f0) = 0
                    · rw [if_pos c9] at H
                      have c9b0 : (((rd_T142 ((rd_T71 l0_0 x3_1).f2) x6_2).f0) == 0) = true := beq_iff_eq.mpr c9
                      have c9b1 : (((rd_T142 ((rd_T71 l0_0 x3_1).f2) x6_2).f0) != 0) = false := bne_eq_false_iff_eq.mpr c9
                      clear c9
                      have H' := Aside0.mk H
                      clear H
                      have hcz10_0 : wr.cell? ⟨gb1467, 0, none⟩ = some (.slice A0_0 l0_0.length c0_0) := (blk_cell BK1467.out 0).trans rfl
                      have hfz10_0 := blk_frozen BK1467.out 0
                      have p1468 : 0 ≤ (x3_1 : Int) := of_decide_eq_true (by first | (with_reducible assumption) | assumption)
                      have q1468 : x3_1 < (l0_0.length : Int) := of_decide_eq_true (by first | (with_reducible assumption) | assumption)
                      obtain ⟨ad1468, A1468_2, c1468_2, e1468, hx1468_0, hx1468_1, hx1468_2, hl1468_2, hi1468_2⟩ := at_T71 HR0_0.out x3_1 p1468 q1468
                      cases e1468
                      replace hx1468_0 := (HB.out.cell (World.block_lt_of_cell? w _ hx1468_0)).trans hx1468_0
                      replace hx1468_1 := (HB.out.cell (World.block_lt_of_cell? w _ hx1468_1)).trans hx1468_1
                      replace hx1468_2 := (HB.out.cell (World.block_lt_of_cell? w _ hx1468_2)).trans hx1468_2
                      have HR1468_2 := Aside0.mk hi1468_2
                      have HC1468_2 := Aside0.mk hl1468_2
                      clear hi1468_2 hl1468_2
                      replace p1468 := eq_true p1468
                      replace q1468 := eq_true q1468
                      have p1469 : 0 ≤ (x3_1 : Int) := of_decide_eq_true (by first | (with_reducible assumption) | assumption)
                      have q1469 : x3_1 < (l0_0.length : Int) := of_decide_eq_true (by first | (with_reducible assumption) | assumption)
                      obtain ⟨ad1469, A1469_2, c1469_2, e1469, hx1469_0, hx1469_1, hx1469_2, hl1469_2, hi1469_2⟩ := at_T71 HR0_0.out x3_1 p1469 q1469
                      obtain rfl : ad1468 = ad1469 := (by injection e1469)
                      replace hx1469_0 := (HB.out.cell (World.block_lt_of_cell? w _ hx1469_0)).trans hx1469_0
                      replace hx1469_1 := (HB.out.cell (World.block_lt_of_cell? w _ hx1469_1)).trans hx1469_1
                      replace hx1469_2 := (HB.out.cell (World.block_lt_of_cell? w _ hx1469_2)).trans hx1469_2
                      have HR1469_2 := Aside0.mk hi1469_2
                      have HC1469_2 := Aside0.mk hl1469_2
                      clear hi1469_2 hl1469_2
                      replace p1469 := eq_true p1469
                      replace q1469 := eq_true q1469
                      have ea_ := Option.some.inj (hx1468_2.symm.trans hx1469_2)
                      injection ea_ with ea_ en_ ec_
                      subst ea_
                      subst ec_
                      clear en_
                      have p1470 : 0 ≤ (x6_2 : Int) := of_decide_eq_true (by first | (with_reducible assumption) | assumption)
                      have q1470 : x6_2 < (((rd_T71 l0_0 x3_1).f2).length : Int) := of_decide_eq_true (by first | (with_reducible assumption) | assumption)
                      obtain ⟨ad1470, e1470, hx1470_0, hx1470_1⟩ := at_T142 HR1469_2.out x6_2 p1470 q1470
                      cases e1470
                      replace hx1470_0 := (HB.out.cell (World.block_lt_of_cell? w _ hx1470_0)).trans hx1470_0
                      replace hx1470_1 := (HB.out.cell (World.block_lt_of_cell? w _ hx1470_1)).trans hx1470_1
                      replace p1470 := eq_true p1470
                      replace q1470 := eq_true q1470
                      go_wp2
                      go_roundg k2
                      case measure => have := HK1.out; have := HK2.out; omega
                      case rel => exact ⟨(wrap64 (x4_2 + 1)), (x5_2), (wrap64 (x6_2 + 1)), (by first | rfl | (simp; done) | (simp [*]; done)), (by first | rfl | (simp; done) | (simp [*]; done)), (by first | rfl | (simp; done) | (simp [*]; done)), H', ⟨by have := HK1.out; have := HK2.out; omega⟩, ⟨by (with_reducible repeat (first | refine blk_drewN ?_ _ | refine blk_drew ?_ | refine blk_alloc ?_ _)); exact BK1467.out⟩, ⟨by repeat (first | (with_reducible first | exact HB.out | apply below_alloc | apply pw_below_drewN | apply below_drew1 | refine below_set ?_ GE1467.out) | exact HB.out)⟩⟩
                    · rw [if_neg c9] at H
                      have c9b0 : (((rd_T142 ((rd_T71 l0_0 x3_1).f2) x6_2).f0) == 0) = false := beq_eq_false_iff_ne.mpr c9
                      have c9b1 : (((rd_T142 ((rd_T71 l0_0 x3_1).f2) x6_2).f0) != 0) = true := bne_iff_ne.mpr c9
                      have H' := Aside0.mk H
                      clear H
                      have hcz11_0 : wr.cell? ⟨gb1467, 0, none⟩ = some (.slice A0_0 l0_0.length c0_0) := (blk_cell BK1467.out 0).trans rfl
                      have hfz11_0 := blk_frozen BK1467.out 0
                      have p1468 : 0 ≤ (x3_1 : Int) := of_decide_eq_true (by first | (with_reducible assumption) | assumption)
                      have q1468 : x3_1 < (l0_0.length : Int) := of_decide_eq_true (by first | (with_reducible assumption) | assumption)
                      obtain ⟨ad1468, A1468_2, c1468_2, e1468, hx1468_0, hx1468_1, hx1468_2, hl1468_2, hi1468_2⟩ := at_T71 HR0_0.out x3_1 p1468 q1468
                      cases e1468
                      replace hx1468_0 := (HB.out.cell (World.block_lt_of_cell? w _ hx1468_0)).trans hx1468_0
                      replace hx1468_1 := (HB.out.cell (World.block_lt_of_cell? w _ hx1468_1)).trans hx1468_1
                      replace hx1468_2 := (HB.out.cell (World.block_lt_of_cell? w _ hx1468_2)).trans hx1468_2
                      have HR1468_2 := Aside0.mk hi1468_2
                      have HC1468_2 := Aside0.mk hl1468_2
                      clear hi1468_2 hl1468_2
                      replace p1468 := eq_true p1468
                      replace q1468 := eq_true q1468
                      have p1469 : 0 ≤ (x3_1 : Int) := of_decide_eq_true (by first | (with_reducible assumption) | assumption)
                      have q1469 : x3_1 < (l0_0.length : Int) := of_decide_eq_true (by first | (with_reducible assumption) | assumption)
                      obtain ⟨ad1469, A1469_2, c1469_2, e1469, hx1469_0, hx1469_1, hx1469_2, hl1469_2, hi1469_2⟩ := at_T71 HR0_0.out x3_1 p1469 q1469
                      obtain rfl : ad1468 = ad1469 := (by injection e1469)
                      replace hx1469_0 := (HB.out.cell (World.block_lt_of_cell? w _ hx1469_0)).trans hx1469_0
                      replace hx1469_1 := (HB.out.cell (World.block_lt_of_cell? w _ hx1469_1)).trans hx1469_1
                      replace hx1469_2 := (HB.out.cell (World.block_lt_of_cell? w _ hx1469_2)).trans hx1469_2
                      have HR1469_2 := Aside0.mk hi1469_2
                      have HC1469_2 := Aside0.mk hl1469_2
                      clear hi1469_2 hl1469_2
                      replace p1469 := eq_true p1469
                      replace q1469 := eq_true q1469
                      have ea_ := Option.some.inj (hx1468_2.symm.trans hx1469_2)
                      injection ea_ with ea_ en_ ec_
                      subst ea_
                      subst ec_
                      clear en_
                      have p1470 : 0 ≤ (x6_2 : Int) := of_decide_eq_true (by first | (with_reducible assumption) | assumption)
                      have q1470 : x6_2 < (((rd_T71 l0_0 x3_1).f2).length : Int) := of_decide_eq_true (by first | (with_reducible assumption) | assumption)
                      obtain ⟨ad1470, e1470, hx1470_0, hx1470_1⟩ := at_T142 HR1469_2.out x6_2 p1470 q1470
                      cases e1470
                      replace hx1470_0 := (HB.out.cell (World.block_lt_of_cell? w _ hx1470_0)).trans hx1470_0
                      replace hx1470_1 := (HB.out.cell (World.block_lt_of_cell? w _ hx1470_1)).trans hx1470_1
                      replace p1470 := eq_true p1470
                      replace q1470 := eq_true q1470
                      go_wp2
                      go_roundg k2
                      case measure => have := HK1.out; have := HK2.out; omega
                      case rel => exact ⟨(x4_2), (wrap64 (x5_2 + 1)), (wrap64 (x6_2 + 1)), (by first | rfl | (simp; done) | (simp [*]; done)), (by first | rfl | (simp; done) | (simp [*]; done)), (by first | rfl | (simp; done) | (simp [*]; done)), H', ⟨by have := HK1.out; have := HK2.out; omega⟩, ⟨by (with_reducible repeat (first | refine blk_drewN ?_ _ | refine blk_drew ?_ | refine blk_alloc ?_ _)); exact BK1467.out⟩, ⟨by repeat (first | (with_reducible first | exact HB.out | apply below_alloc | apply pw_below_drewN | apply below_drew1 | refine below_set ?_ GE1467.out) | exact HB.out)⟩⟩
                  · rw [if_neg c8] at H
                    exact absurd H (by simp)
                · rw [if_neg c7] at H
                  have c7b0 : decide (x6_2 < (((rd_T71 l0_0 x3_1).f2).length : Int)) = false := decide_eq_false c7
                  clear c7
                  obtain ⟨bq12, hbq12⟩ : ∃ b_ : Bool, b_ = ((rd_T71 l0_0 x3_1).f0) := ⟨_, rfl⟩
                  replace H : (if (bq12 = true) then (spec_OpenBlock.l0 k2 (wrap64 (x3_1 + 1)) l0_0) else (if x4_2 > 0 then (if x5_2 > 0 then (some x3_1) else (spec_OpenBlock.l0 k2 (wrap64 (x3_1 + 1)) l0_0)) else (spec_OpenBlock.l0 k2 (wrap64 (x3_1 + 1)) l0_0))) = some r := by rw [← hbq12] at H; exact H
                  have Nbq12 := Aside0.mk hbq12
                  clear hbq12
                  by_cases c13 : (bq12 = true)
                  · subst c13
                    have H1 : (spec_OpenBlock.l0 k2 (wrap64 (x3_1 + 1)) l0_0) = some r := by rw [if_pos rfl] at H; exact H
                    clear H
                    have H := H1
                    clear H1
                    have H' := Aside0.mk H
                    clear H
                    have hcz14_0 : wr.cell? ⟨gb1467, 0, none⟩ = some (.slice A0_0 l0_0.length c0_0) := (blk_cell BK1467.out 0).trans rfl
                    have hfz14_0 := blk_frozen BK1467.out 0
                    have p1468 : 0 ≤ (x3_1 : Int) := of_decide_eq_true (by first | (with_reducible assumption) | assumption)
                    have q1468 : x3_1 < (l0_0.length : Int) := of_decide_eq_true (by first | (with_reducible assumption) | assumption)
                    obtain ⟨ad1468, A1468_2, c1468_2, e1468, hx1468_0, hx1468_1, hx1468_2, hl1468_2, hi1468_2⟩ := at_T71 HR0_0.out x3_1 p1468 q1468
                    (try rw [← Nbq12.out] at hx1468_0)
                    cases e1468
                    replace hx1468_0 := (HB.out.cell (World.block_lt_of_cell? w _ hx1468_0)).trans hx1468_0
                    replace hx1468_1 := (HB.out.cell (World.block_lt_of_cell? w _ hx1468_1)).trans hx1468_1
                    replace hx1468_2 := (HB.out.cell (World.block_lt_of_cell? w _ hx1468_2)).trans hx1468_2
                    have HR1468_2 := Aside0.mk hi1468_2
                    have HC1468_2 := Aside0.mk hl1468_2
                    clear hi1468_2 hl1468_2
                    replace p1468 := eq_true p1468
                    replace q1468 := eq_true q1468
                    have p1471 : 0 ≤ (x3_1 : Int) := of_decide_eq_true (by first | (with_reducible assumption) | assumption)
                    have q1471 : x3_1 < (l0_0.length : Int) := of_decide_eq_true (by first | (with_reducible assumption) | assumption)
                    obtain ⟨ad1471, A1471_2, c1471_2, e1471, hx1471_0, hx1471_1, hx1471_2, hl1471_2, hi1471_2⟩ := at_T71 HR0_0.out x3_1 p1471 q1471
                    (try rw [← Nbq12.out] at hx1471_0)
                    obtain rfl : ad1468 = ad1471 := (by injection e1471)
                    replace hx1471_0 := (HB.out.cell (World.block_lt_of_cell? w _ hx1471_0)).trans hx1471_0
                    replace hx1471_1 := (HB.out.cell (World.block_lt_of_cell? w _ hx1471_1)).trans hx1471_1
                    replace hx1471_2 := (HB.out.cell (World.block_lt_of_cell? w _ hx1471_2)).trans hx1471_2
                    have HR1471_2 := Aside0.mk hi1471_2
                    have HC1471_2 := Aside0.mk hl1471_2
                    clear hi1471_2 hl1471_2
                    replace p1471 := eq_true p1471
                    replace q1471 := eq_true q1471
                    have ea_ := Option.some.inj (hx1468_2.symm.trans hx1471_2)
                    injection ea_ with ea_ en_ ec_
                    subst ea_
                    subst ec_
                    clear en_
                    go_wp2
                    go_roundg k2
                    case measure => have := HK1.out; have := HK2.out; omega
                    case rel => exact ⟨(wrap64 (x3_1 + 1)), (by first | rfl | (simp; done) | (simp [*]; done)), H', ⟨by have := HK1.out; have := HK2.out; omega⟩, ⟨by (with_reducible repeat (first | refine blk_drewN ?_ _ | refine blk_drew ?_ | refine blk_alloc ?_ _)); exact BK1467.out⟩, ⟨by repeat (first | (with_reducible first | exact HB.out | apply below_alloc | apply pw_below_drewN | apply below_drew1 | refine below_set ?_ GE1467.out) | exact HB.out)⟩⟩
                  · replace c13 := Bool.eq_false_iff.mpr c13
                    subst c13
                    have H1 : (if x4_2 > 0 then (if x5_2 > 0 then (some x3_1) else (spec_OpenBlock.l0 k2 (wrap64 (x3_1 + 1)) l0_0)) else (spec_OpenBlock.l0 k2 (wrap64 (x3_1 + 1)) l0_0)) = some r := by rw [if_neg (show ¬ (false = true) by decide)] at H; exact H
                    clear H
                    have H := H1
                    clear H1
                    by_cases c15 : x4_2 > 0
                    · rw [if_pos c15] at H
                      have c15b0 : decide (0 < x4_2) = true := decide_eq_true c15
                      clear c15
                      by_cases c16 : x5_2 > 0
                      · rw [if_pos c16] at H
                        have c16b0 : decide (0 < x5_2) = true := decide_eq_true c16
                        clear c16
                        obtain rfl := Option.some.inj H
                        have hcz17_0 : wr.cell? ⟨gb1467, 0, none⟩ = some (.slice A0_0 l0_0.length c0_0) := (blk_cell BK1467.out 0).trans rfl
                        have hfz17_0 := blk_frozen BK1467.out 0
                        have p1468 : 0 ≤ (x3_1 : Int) := of_decide_eq_true (by first | (with_reducible assumption) | assumption)
                        have q1468 : x3_1 < (l0_0.length : Int) := of_decide_eq_true (by first | (with_reducible assumption) | assumption)
                        obtain ⟨ad1468, A1468_2, c1468_2, e1468, hx1468_0, hx1468_1, hx1468_2, hl1468_2, hi1468_2⟩ := at_T71 HR0_0.out x3_1 p1468 q1468
                        (try rw [← Nbq12.out] at hx1468_0)
                        cases e1468
                        replace hx1468_0 := (HB.out.cell (World.block_lt_of_cell? w _ hx1468_0)).trans hx1468_0
                        replace hx1468_1 := (HB.out.cell (World.block_lt_of_cell? w _ hx1468_1)).trans hx1468_1
                        replace hx1468_2 := (HB.out.cell (World.block_lt_of_cell? w _ hx1468_2)).trans hx1468_2
                        have HR1468_2 := Aside0.mk hi1468_2
                        have HC1468_2 := Aside0.mk hl1468_2
                        clear hi1468_2 hl1468_2
                        replace p1468 := eq_true p1468
                        replace q1468 := eq_true q1468
                        have p1471 : 0 ≤ (x3_1 : Int) := of_decide_eq_true (by first | (with_reducible assumption) | assumption)
                        have q1471 : x3_1 < (l0_0.length : Int) := of_decide_eq_true (by first | (with_reducible assumption) | assumption)
                        obtain ⟨ad1471, A1471_2, c1471_2, e1471, hx1471_0, hx1471_1, hx1471_2, hl1471_2, hi1471_2⟩ := at_T71 HR0_0.out x3_1 p1471 q1471
                        (try rw [← Nbq12.out] at hx1471_0)
                        obtain rfl : ad1468 = ad1471 := (by injection e1471)
                        replace hx1471_0 := (HB.out.cell (World.block_lt_of_cell? w _ hx1471_0)).trans hx1471_0
                        replace hx1471_1 := (HB.out.cell (World.block_lt_of_cell? w _ hx1471_1)).trans hx1471_1
                        replace hx1471_2 := (HB.out.cell (World.block_lt_of_cell? w _ hx1471_2)).trans hx1471_2
                        have HR1471_2 := Aside0.mk hi1471_2
                        have HC1471_2 := Aside0.mk hl1471_2
                        clear hi1471_2 hl1471_2
                        replace p1471 := eq_true p1471
                        replace q1471 := eq_true q1471
                        have ea_ := Option.some.inj (hx1468_2.symm.trans hx1471_2)
                        injection ea_ with ea_ en_ ec_
                        subst ea_
                        subst ec_
                        clear en_
                        go_wp2
                        go_ret
                        exact ⟨by first | rfl | (simp [errW_none, errW_some] <;> rfl) | (simp [*, errW_none, errW_some] <;> rfl), by repeat (first | (with_reducible first | exact HB.out | apply below_alloc | apply pw_below_drewN | apply below_drew1 | refine below_set ?_ GE1467.out) | exact HB.out)⟩
                      · rw [if_neg c16] at H
                        have c16b0 : decide (0 < x5_2) = false := decide_eq_false c16
                        clear c16
                        have H' := Aside0.mk H
                        clear H
                        have hcz18_0 : wr.cell? ⟨gb1467, 0, none⟩ = some (.slice A0_0 l0_0.length c0_0) := (blk_cell BK1467.out 0).trans rfl
                        have hfz18_0 := blk_frozen BK1467.out 0
                        have p1468 : 0 ≤ (x3_1 : Int) := of_decide_eq_true (by first | (with_reducible assumption) | assumption)
                        have q1468 : x3_1 < (l0_0.length : Int) := of_decide_eq_true (by first | (with_reducible assumption) | assumption)
                        obtain ⟨ad1468, A1468_2, c1468_2, e1468, hx1468_0, hx1468_1, hx1468_2, hl1468_2, hi1468_2⟩ := at_T71 HR0_0.out x3_1 p1468 q1468
                        (try rw [← Nbq12.out] at hx1468_0)
                        cases e1468
                        replace hx1468_0 := (HB.out.cell (World.block_lt_of_cell? w _ hx1468_0)).trans hx1468_0
                        replace hx1468_1 := (HB.out.cell (World.block_lt_of_cell? w _ hx1468_1)).trans hx1468_1
                        replace hx1468_2 := (HB.out.cell (World.block_lt_of_cell? w _ hx1468_2)).trans hx1468_2
                        have HR1468_2 := Aside0.mk hi1468_2
                        have HC1468_2 := Aside0.mk hl1468_2
                        clear hi1468_2 hl1468_2
                        replace p1468 := eq_true p1468
                        replace q1468 := eq_true q1468
                        have p1471 : 0 ≤ (x3_1 : Int) := of_decide_eq_true (by first | (with_reducible assumption) | assumption)
                        have q1471 : x3_1 < (l0_0.length : Int) := of_decide_eq_true (by first | (with_reducible assumption) | assumption)
                        obtain ⟨ad1471, A1471_2, c1471_2, e1471, hx1471_0, hx1471_1, hx1471_2, hl1471_2, hi1471_2⟩ := at_T71 HR0_0.out x3_1 p1471 q1471
                        (try rw [← Nbq12.out] at hx1471_0)
                        obtain rfl : ad1468 = ad1471 := (by injection e1471)
                        replace hx1471_0 := (HB.out.cell (World.block_lt_of_cell? w _ hx1471_0)).trans hx1471_0
                        replace hx1471_1 := (HB.out.cell (World.block_lt_of_cell? w _ hx1471_1)).trans hx1471_1
                        replace hx1471_2 := (HB.out.cell (World.block_lt_of_cell? w _ hx1471_2)).trans hx1471_2
                        have HR1471_2 := Aside0.mk hi1471_2
                        have HC1471_2 := Aside0.mk hl1471_2
                        clear hi1471_2 hl1471_2
                        replace p1471 := eq_true p1471
                        replace q1471 := eq_true q1471
                        have ea_ := Option.some.inj (hx1468_2.symm.trans hx1471_2)
                        injection ea_ with ea_ en_ ec_
                        subst ea_
                        subst ec_
                        clear en_
                        go_wp2
                        go_roundg k2
                        case measure => have := HK1.out; have := HK2.out; omega
                        case rel => exact ⟨(wrap64 (x3_1 + 1)), (by first | rfl | (simp; done) | (simp [*]; done)), H', ⟨by have := HK1.out; have := HK2.out; omega⟩, ⟨by (with_reducible repeat (first | refine blk_drewN ?_ _ | refine blk_drew ?_ | refine blk_alloc ?_ _)); exact BK1467.out⟩, ⟨by repeat (first | (with_reducible first | exact HB.out | apply below_alloc | apply pw_below_drewN | apply below_drew1 | refine below_set ?_ GE1467.out) | exact HB.out)⟩⟩
                    · rw [if_neg c15] at H
                      have c15b0 : decide (0 < x4_2) = false := decide_eq_false c15
                      clear c15
                      have H' := Aside0.mk H
                      clear H
                      have hcz19_0 : wr.cell? ⟨gb1467, 0, none⟩ = some (.slice A0_0 l0_0.length c0_0) := (blk_cell BK1467.out 0).trans rfl
                      have hfz19_0 := blk_frozen BK1467.out 0
                      have p1468 : 0 ≤ (x3_1 : Int) := of_decide_eq_true (by first | (with_reducible assumption) | assumption)
                      have q1468 : x3_1 < (l0_0.length : Int) := of_decide_eq_true (by first | (with_reducible assumption) | assumption)
                      obtain ⟨ad1468, A1468_2, c1468_2, e1468, hx1468_0, hx1468_1, hx1468_2, hl1468_2, hi1468_2⟩ := at_T71 HR0_0.out x3_1 p1468 q1468
                      (try rw [← Nbq12.out] at hx1468_0)
                      cases e1468
                      replace hx1468_0 := (HB.out.cell (World.block_lt_of_cell? w _ hx1468_0)).trans hx1468_0
                      replace hx1468_1 := (HB.out.cell (World.block_lt_of_cell? w _ hx1468_1)).trans hx1468_1
                      replace hx1468_2 := (HB.out.cell (World.block_lt_of_cell? w _ hx1468_2)).trans hx1468_2
                      have HR1468_2 := Aside0.mk hi1468_2
                      have HC1468_2 := Aside0.mk hl1468_2
                      clear hi1468_2 hl1468_2
                      replace p1468 := eq_true p1468
                      replace q1468 := eq_true q1468
                      have p1471 : 0 ≤ (x3_1 : Int) := of_decide_eq_true (by first | (with_reducible assumption) | assumption)
                      have q1471 : x3_1 < (l0_0.length : Int) := of_decide_eq_true (by first | (with_reducible assumption) | assumption)
                      obtain ⟨ad1471, A1471_2, c1471_2, e1471, hx1471_0, hx1471_1, hx1471_2, hl1471_2, hi1471_2⟩ := at_T71 HR0_0.out x3_1 p1471 q1471
                      (try rw [← Nbq12.out] at hx1471_0)
                      obtain rfl : ad1468 = ad1471 := (by injection e1471)
                      replace hx1471_0 := (HB.out.cell (World.block_lt_of_cell? w _ hx1471_0)).trans hx1471_0
                      replace hx1471_1 := (HB.out.cell (World.block_lt_of_cell? w _ hx1471_1)).trans hx1471_1
                      replace hx1471_2 := (HB.out.cell (World.block_lt_of_cell? w _ hx1471_2)).trans hx1471_2
                      have HR1471_2 := Aside0.mk hi1471_2
                      have HC1471_2 := Aside0.mk hl1471_2
                      clear hi1471_2 hl1471_2
                      replace p1471 := eq_true p1471
                      replace q1471 := eq_true q1471
                      have ea_ := Option.some.inj (hx1468_2.symm.trans hx1471_2)
                      injection ea_ with ea_ en_ ec_
                      subst ea_
                      subst ec_
                      clear en_
                      go_wp2
                      go_roundg k2
                      case measure => have := HK1.out; have := HK2.out; omega
                      case rel => exact ⟨(wrap64 (x3_1 + 1)), (by first | rfl | (simp; done) | (simp [*]; done)), H', ⟨by have := HK1.out; have := HK2.out; omega⟩, ⟨by (with_reducible repeat (first | refine blk_drewN ?_ _ | refine blk_drew ?_ | refine blk_alloc ?_ _)); exact BK1467.out⟩, ⟨by repeat (first | (with_reducible first | exact HB.out | apply below_alloc | apply pw_below_drewN | apply below_drew1 | refine below_set ?_ GE1467.out) | exact HB.out)⟩⟩
              · rw [if_neg c6] at H
                exact absurd H (by simp)
            · rw [if_neg c5] at H
              exact absurd H (by simp)
      · rw [if_neg c3] at H
        have c3b0 : decide (x3_1 < (l0_0.length : Int)) = false := decide_eq_false c3
        clear c3
        obtain rfl := Option.some.inj H
        have hcz20_0 : wr.cell? ⟨gb1467, 0, none⟩ = some (.slice A0_0 l0_0.length c0_0) := (blk_cell BK1467.out 0).trans rfl
        have hfz20_0 := blk_frozen BK1467.out 0
        go_wp2
        go_ret
        exact ⟨by first | rfl | (simp [errW_none, errW_some] <;> rfl) | (simp [*, errW_none, errW_some] <;> rfl), by repeat (first | (with_reducible first | exact HB.out | apply below_alloc | apply pw_below_drewN | apply below_drew1 | refine below_set ?_ GE1467.out) | exact HB.out)⟩

end Go.Proofs.Ytdolplcbokioaaa.PB

/- Functions of the translation as plain Lean functions, and for each that its call comes to just what its Lean function answers; its conditions stand in each theorem. Written by a program of this session. -/
namespace Go.Proofs.Ytdolplcbokioaaa.PB
open Go.RowKit Go.Proofs.YtdolplcbokioaaaW.PrintWords Go.Proofs.YtdolplcbokioaaaW.PrintLast Go.Proofs.YtdolplcbokioaaaW.PrintMore
attribute [local go_sem] max2_int min2_int max_two min_two max_three min_three max_four min_four   -- for this text's walks alone
set_option linter.unusedVariables false
set_option linter.unusedSimpArgs false

/-! ### spec_FreeBlocks: function 131 -/
mutual
def spec_FreeBlocks.l0 : Nat → List Int → Int → List (S71) → Option (List Int)
  | 0, _, _, _ => none
  | k + 1, x3, x4, x1473000 => if x4 < (x1473000.length : Int) then (if 0 ≤ x4 then (spec_FreeBlocks.l1 k x3 x4 (!((rd_T71 x1473000 x4).f0)) 0 x1473000) else (none)) else (some x3)
def spec_FreeBlocks.l1 : Nat → List Int → Int → Bool → Int → List (S71) → Option (List Int)
  | 0, _, _, _, _, _ => none
  | k + 1, x3, x4, x5, x6, x1473000 => if 0 ≤ x4 then (if x4 < (x1473000.length : Int) then (if x6 < (((rd_T71 x1473000 x4).f2).length : Int) then (if x5 = true then (if 0 ≤ x6 then (spec_FreeBlocks.l1 k x3 x4 (((rd_T142 ((rd_T71 x1473000 x4).f2) x6).f0) == 0) (wrap64 (x6 + 1)) x1473000) else (none)) else (spec_FreeBlocks.l1 k x3 x4 false (wrap64 (x6 + 1)) x1473000)) else (if x5 = true then (if x3.length < 17592186044416 then (spec_FreeBlocks.l0 k (x3 ++ [x4]) (wrap64 (x4 + 1)) x1473000) else (none)) else (spec_FreeBlocks.l0 k x3 (wrap64 (x4 + 1)) x1473000))) else (none)) else (none)
end
def spec_FreeBlocks.f (k : Nat) (l0_0 : List (S71)) : Option (List Int) := spec_FreeBlocks.l0 k (([] : List Int)) 0 l0_0
theorem spec_FreeBlocks.mono_l : ∀ k, (∀ y0 y1 y2, LeO (spec_FreeBlocks.l0 k y0 y1 y2) (spec_FreeBlocks.l0 (k + 1) y0 y1 y2)) ∧ (∀ y0 y1 y2 y3 y4, LeO (spec_FreeBlocks.l1 k y0 y1 y2 y3 y4) (spec_FreeBlocks.l1 (k + 1) y0 y1 y2 y3 y4))
  | 0 => ⟨fun _ _ _ r h => by simp [spec_FreeBlocks.l0] at h, fun _ _ _ _ _ r h => by simp [spec_FreeBlocks.l1] at h⟩
  | k + 1 => by
    obtain ⟨ih0, ih1⟩ := spec_FreeBlocks.mono_l k
    refine ⟨?_, ?_⟩
    · intro y0 y1 y2
      unfold spec_FreeBlocks.l0
      repeat' first
      | (with_reducible exact ih0 _ _ _)
      | (with_reducible exact ih1 _ _ _ _ _)
      | (with_reducible exact LeO.refl _)
      | (with_reducible exact LeO.none _)
      | (with_reducible refine LeO.ite ?_ ?_)
      | (with_reducible refine LeO.bind ?_ (fun _ => ?_))
      | exact ih0 _ _ _
      | exact ih1 _ _ _ _ _
      | exact LeO.none _
      | refine LeO.ite ?_ ?_
      | refine LeO.bind ?_ (fun _ => ?_)
    · intro y0 y1 y2 y3 y4
      unfold spec_FreeBlocks.l1
      repeat' first
      | (with_reducible exact ih0 _ _ _)
      | (with_reducible exact ih1 _ _ _ _ _)
      | (with_reducible exact LeO.refl _)
      | (with_reducible exact LeO.none _)
      | (with_reducible refine LeO.ite ?_ ?_)
      | (with_reducible refine LeO.bind ?_ (fun _ => ?_))
      | exact ih0 _ _ _
      | exact ih1 _ _ _ _ _
      | exact LeO.none _
      | refine LeO.ite ?_ ?_
      | refine LeO.bind ?_ (fun _ => ?_)
theorem spec_FreeBlocks.mono : ∀ a0 k, LeO (spec_FreeBlocks.f k a0) (spec_FreeBlocks.f (k + 1) a0) := by
  intro a0 k
  obtain ⟨ih0, ih1⟩ := spec_FreeBlocks.mono_l k
  unfold spec_FreeBlocks.f
  repeat' first
      | (with_reducible exact ih0 _ _ _)
      | (with_reducible exact ih1 _ _ _ _ _)
      | (with_reducible exact LeO.refl _)
      | (with_reducible exact LeO.none _)
      | (with_reducible refine LeO.ite ?_ ?_)
      | (with_reducible refine LeO.bind ?_ (fun _ => ?_))
      | exact ih0 _ _ _
      | exact ih1 _ _ _ _ _
      | exact LeO.none _
      | refine LeO.ite ?_ ?_
      | refine LeO.bind ?_ (fun _ => ?_)
set_option maxHeartbeats 8000000 in
set_option maxRecDepth 100000 in
theorem spec_FreeBlocks.calls (k : Nat) (A0_0 : Option Addr) (c0_0 : Nat) (l0_0 : List (S71)) (r : List Int) (w : World) (hr0_0 : Kd.C k71 w A0_0 l0_0.length l0_0) (hc0_0 : l0_0.length ≤ c0_0) (h : spec_FreeBlocks.f k l0_0 = some r) :
    Calls Try.prog 131 #[.agg #[.slice A0_0 l0_0.length c0_0]] w fun e w' => ∃ v0_ : Value, e = .returned (v0_) ∧ Kd.R (Kd.int .i64) 3 w' w.heap.size (fun _ => True) v0_ r ∧ Below w.heap.size w w' := by
  have hu63 := Try.underlying63
  have HR0_0 := Aside0.mk hr0_0
  have HC0_0 := Aside0.mk hc0_0
  clear hr0_0 hc0_0
  have HB := Aside0.mk (Below.refl w.heap.size w)
  have H : (spec_FreeBlocks.l0 k (([] : List Int)) 0 l0_0) = some r := h
  clear h
  obtain ⟨y1473, hy1473⟩ : ∃ y_ : List Int, y_ = (([] : List Int)) := ⟨_, rfl⟩
  replace H : (spec_FreeBlocks.l0 k y1473 0 l0_0) = some r := by first | (rw [hy1473]; with_reducible exact H) | (have H2_ := (Option.bind_some _ _).symm.trans H; rw [hy1473]; with_reducible exact H2_) | (have H2_ := (Option.bind_some _ _).symm.trans H; with_reducible exact H2_) | with_reducible exact H | (rw [hy1473]; exact H) | exact H
  have Ny1473 := Aside0.mk hy1473
  clear hy1473
  have H' := Aside0.mk H
  clear H
  go_enter Try.func131, Try.ntmps131
  go_wp2_with (first | ((with_reducible refine gate_dst (N := 1) rfl ?_); refine box_event ?hg (N := 1) ?hd (cs := #[.slice A0_0 l0_0.length c0_0]) (t := 63) ?hr ?_; (case hd => rfl); (case hg => rfl); (case hr => first | (go_simp; done) | (go_simp; rfl)); intro gb1472 hg w2 hbox hb; have n0_ := Aside0.mk (below_step (by repeat (first | (with_reducible first | exact HB.out | apply below_alloc | apply pw_below_drewN | apply below_drew1) | exact HB.out)) hb); have n1_ := Aside0.mk (hbox); have n2_ := Aside0.mk ((by rw [hg]; exact (below_size (by repeat (first | (with_reducible first | exact HB.out | apply below_alloc | apply pw_below_drewN | apply below_drew1) | exact HB.out))) : w.heap.size ≤ gb1472)); have n3_ := Aside0.mk ((by rw [hg]; exact (below_size (by repeat (first | (with_reducible first | exact HB.out | apply below_alloc | apply pw_below_drewN | apply below_drew1) | exact HB.out))) : w.heap.size ≤ gb1472)); clear HB; have HB := n0_; have BK1472 := n1_; have GW1472 := n2_; have GE1472 := n3_; clear n0_ n1_ n2_ n3_; clear hb hbox hg) | ((with_reducible refine gate_dst (N := 7) rfl ?_); refine Kd.R_lit (Kd.int .i64) _ 3 ?hg (N := 7) ?hd (xs := ([] : List Int)) (inner := []) (ok := fun _ => True) (okp := fun _ => True) ?hr ?hp (fun _ hk => hk) trivial (Below.refl _ _) (Nat.le_refl _) (by simp) ?_; (case hd => rfl); (case hg => rfl); (case hr => first | (go_simp; done) | (go_simp; rfl)); (case hp => exact (Reps.none _ _)); intro v1474 w3 ho4 hb hg_ hnew_; clear hg_ hnew_; (first | rw [← Ny1473.out] at ho4 | (simp only [Int.reduceToNat] at ho4; rw [← Ny1473.out] at ho4)); have n0_ := Aside0.mk (Kd.R_lower ho4 (below_size (by repeat (first | (with_reducible first | exact HB.out | apply below_alloc | apply pw_below_drewN | apply below_drew1 | refine below_set ?_ GE1472.out) | exact HB.out)))); have n1_ := Aside0.mk (blk_below (g := gb1472) (o := .cells #[.slice A0_0 l0_0.length c0_0] 63 (0, 0)) (by (with_reducible repeat (first | refine blk_drewN ?_ _ | refine blk_drew ?_ | refine blk_alloc ?_ _)); exact BK1472.out) hb); have n2_ := Aside0.mk (below_step (by repeat (first | (with_reducible first | exact HB.out | apply below_alloc | apply pw_below_drewN | apply below_drew1 | refine below_set ?_ GE1472.out) | exact HB.out)) hb); clear BK1472; clear HB; have HO1475 := n0_; have BK1472 := n1_; have HB := n2_; clear n0_ n1_ n2_; clear hb ho4))
  go_loopg [3, 4] k (fun kq v3 v4 w' => ∃ (x3_1 : List Int) (x4_1 : Int), v4 = .int .i64 x4_1 ∧ Aside0 (spec_FreeBlocks.l0 kq x3_1 x4_1 l0_0 = some r) ∧ Aside0 (kq ≤ k) ∧ Aside0 (Kd.R (Kd.int .i64) 3 w' w.heap.size (fun _ => True) v3 x3_1) ∧ Aside0 (w'.heap[gb1472]? = some (.cells #[(.slice A0_0 l0_0.length c0_0)] 63 (0, 0))) ∧ Aside0 (Below w.heap.size w w'))
  case atStart => exact ⟨(y1473), (0), (by first | rfl | (simp; done) | (simp [*]; done)), H', ⟨Nat.le_refl _⟩, ⟨by (with_reducible repeat (first | apply Kd.R_alloc | apply Kd.R_drewN | apply Kd.R_drew)); exact HO1475.out⟩, ⟨by (with_reducible repeat (first | refine blk_drewN ?_ _ | refine blk_drew ?_ | refine blk_alloc ?_ _)); exact BK1472.out⟩, ⟨by repeat (first | (with_reducible first | exact HB.out | apply below_alloc | apply pw_below_drewN | apply below_drew1 | refine below_set ?_ GE1472.out) | exact HB.out)⟩⟩
  case round =>
    clear H'
    try clear c1
    try clear p2
    obtain ⟨x3_1, x4_1, rfl, HA, HK1, HO_3, BK1472, HB⟩ := hrel
    cases gk with
    | zero => exact absurd HA.out (by simp [spec_FreeBlocks.l0])
    | succ k1 =>
      have H := HA.out
      clear HA
      simp only [spec_FreeBlocks.l0] at H
      by_cases c5 : x4_1 < (l0_0.length : Int)
      · rw [if_pos c5] at H
        have c5b0 : decide (x4_1 < (l0_0.length : Int)) = true := decide_eq_true c5
        clear c5
        by_cases c6 : 0 ≤ x4_1
        · rw [if_pos c6] at H
          have c6b0 : decide (0 ≤ x4_1) = true := decide_eq_true c6
          clear c6
          have H' := Aside0.mk H
          clear H
          have hcz7_0 : wr.cell? ⟨gb1472, 0, none⟩ = some (.slice A0_0 l0_0.length c0_0) := (blk_cell BK1472.out 0).trans rfl
          have hfz7_0 := blk_frozen BK1472.out 0
          have p1476 : 0 ≤ (x4_1 : Int) := of_decide_eq_true (by first | (with_reducible assumption) | assumption)
          have q1476 : x4_1 < (l0_0.length : Int) := of_decide_eq_true (by first | (with_reducible assumption) | assumption)
          obtain ⟨ad1476, A1476_2, c1476_2, e1476, hx1476_0, hx1476_1, hx1476_2, hl1476_2, hi1476_2⟩ := at_T71 HR0_0.out x4_1 p1476 q1476
          cases e1476
          replace hx1476_0 := (HB.out.cell (World.block_lt_of_cell? w _ hx1476_0)).trans hx1476_0
          replace hx1476_1 := (HB.out.cell (World.block_lt_of_cell? w _ hx1476_1)).trans hx1476_1
          replace hx1476_2 := (HB.out.cell (World.block_lt_of_cell? w _ hx1476_2)).trans hx1476_2
          have HR1476_2 := Aside0.mk hi1476_2
          have HC1476_2 := Aside0.mk hl1476_2
          clear hi1476_2 hl1476_2
          replace p1476 := eq_true p1476
          replace q1476 := eq_true q1476
          go_wp2
          go_loopg [5, 6] k1 (fun kq v5 v6 w' => ∃ (x5_2 : Bool) (x6_2 : Int), v5 = .bool x5_2 ∧ v6 = .int .i64 x6_2 ∧ Aside0 (spec_FreeBlocks.l1 kq x3_1 x4_1 x5_2 x6_2 l0_0 = some r) ∧ Aside0 (kq ≤ k1) ∧ Aside0 (Kd.R (Kd.int .i64) 3 w' w.heap.size (fun _ => True) u3 x3_1) ∧ Aside0 (w'.heap[gb1472]? = some (.cells #[(.slice (some ad1476) l0_0.length c0_0)] 63 (0, 0))) ∧ Aside0 (Below w.heap.size w w'))
          case atStart => exact ⟨(!((rd_T71 l0_0 x4_1).f0)), (0), (by first | rfl | (simp; done) | (simp [*]; done)), (by first | rfl | (simp; done) | (simp [*]; done)), H', ⟨Nat.le_refl _⟩, ⟨by (with_reducible repeat (first | apply Kd.R_alloc | apply Kd.R_drewN | apply Kd.R_drew)); exact HO_3.out⟩, ⟨by (with_reducible repeat (first | refine blk_drewN ?_ _ | refine blk_drew ?_ | refine blk_alloc ?_ _)); exact BK1472.out⟩, ⟨by repeat (first | (with_reducible first | exact HB.out | apply below_alloc | apply pw_below_drewN | apply below_drew1 | refine below_set ?_ GE1472.out) | exact HB.out)⟩⟩
          case round =>
            clear H'
            try clear c1
            try clear p1
            try clear q1
            try clear hx1
            try clear p2
            try clear c5
            try clear c5b0
            try clear c6
            try clear c6b0
            try clear hcz7_0
            try clear hfz7_0
            try clear hx1476_0
            try clear hx1476_1
            try clear hx1476_2
            try clear p1476
            try clear p2
            try clear q1476
            obtain ⟨x5_2, x6_2, rfl, rfl, HA, HK2, HO_3, BK1472, HB⟩ := hrel
            cases gk with
            | zero => exact absurd HA.out (by simp [spec_FreeBlocks.l1])
            | succ k2 =>
              have H := HA.out
              clear HA
              simp only [spec_FreeBlocks.l1] at H
              by_cases c8 : 0 ≤ x4_1
              · rw [if_pos c8] at H
                have c8b0 : decide (0 ≤ x4_1) = true := decide_eq_true c8
                clear c8
                by_cases c9 : x4_1 < (l0_0.length : Int)
                · rw [if_pos c9] at H
                  have c9b0 : decide (x4_1 < (l0_0.length : Int)) = true := decide_eq_true c9
                  clear c9
                  by_cases c10 : x6_2 < (((rd_T71 l0_0 x4_1).f2).length : Int)
                  · rw [if_pos c10] at H
                    have c10b0 : decide (x6_2 < (((rd_T71 l0_0 x4_1).f2).length : Int)) = true := decide_eq_true c10
                    clear c10
                    by_cases c11 : x5_2 = true
                    · subst c11
                      have H1 : (if 0 ≤ x6_2 then (spec_FreeBlocks.l1 k2 x3_1 x4_1 (((rd_T142 ((rd_T71 l0_0 x4_1).f2) x6_2).f0) == 0) (wrap64 (x6_2 + 1)) l0_0) else (none)) = some r := by rw [if_pos rfl] at H; exact H
                      clear H
                      have H := H1
                      clear H1
                      by_cases c12 : 0 ≤ x6_2
                      · rw [if_pos c12] at H
                        have c12b0 : decide (0 ≤ x6_2) = true := decide_eq_true c12
                        clear c12
                        have H' := Aside0.mk H
                        clear H
                        have hcz13_0 : wr.cell? ⟨gb1472, 0, none⟩ = some (.slice (some ad1476) l0_0.length c0_0) := (blk_cell BK1472.out 0).trans rfl
                        have hfz13_0 := blk_frozen BK1472.out 0
                        have p1477 : 0 ≤ (x4_1 : Int) := of_decide_eq_true (by first | (with_reducible assumption) | assumption)
                        have q1477 : x4_1 < (l0_0.length : Int) := of_decide_eq_true (by first | (with_reducible assumption) | assumption)
                        obtain ⟨ad1477, A1477_2, c1477_2, e1477, hx1477_0, hx1477_1, hx1477_2, hl1477_2, hi1477_2⟩ := at_T71 HR0_0.out x4_1 p1477 q1477
                        obtain rfl : ad1476 = ad1477 := (by injection e1477)
                        replace hx1477_0 := (HB.out.cell (World.block_lt_of_cell? w _ hx1477_0)).trans hx1477_0
                        replace hx1477_1 := (HB.out.cell (World.block_lt_of_cell? w _ hx1477_1)).trans hx1477_1
                        replace hx1477_2 := (HB.out.cell (World.block_lt_of_cell? w _ hx1477_2)).trans hx1477_2
                        have HR1477_2 := Aside0.mk hi1477_2
                        have HC1477_2 := Aside0.mk hl1477_2
                        clear hi1477_2 hl1477_2
                        replace p1477 := eq_true p1477
                        replace q1477 := eq_true q1477
                        have p1478 : 0 ≤ (x4_1 : Int) := of_decide_eq_true (by first | (with_reducible assumption) | assumption)
                        have q1478 : x4_1 < (l0_0.length : Int) := of_decide_eq_true (by first | (with_reducible assumption) | assumption)
                        obtain ⟨ad1478, A1478_2, c1478_2, e1478, hx1478_0, hx1478_1, hx1478_2, hl1478_2, hi1478_2⟩ := at_T71 HR0_0.out x4_1 p1478 q1478
                        obtain rfl : ad1476 = ad1478 := (by injection e1478)
                        replace hx1478_0 := (HB.out.cell (World.block_lt_of_cell? w _ hx1478_0)).trans hx1478_0
                        replace hx1478_1 := (HB.out.cell (World.block_lt_of_cell? w _ hx1478_1)).trans hx1478_1
                        replace hx1478_2 := (HB.out.cell (World.block_lt_of_cell? w _ hx1478_2)).trans hx1478_2
                        have HR1478_2 := Aside0.mk hi1478_2
                        have HC1478_2 := Aside0.mk hl1478_2
                        clear hi1478_2 hl1478_2
                        replace p1478 := eq_true p1478
                        replace q1478 := eq_true q1478
                        have ea_ := Option.some.inj (hx1477_2.symm.trans hx1478_2)
                        injection ea_ with ea_ en_ ec_
                        subst ea_
                        subst ec_
                        clear en_
                        have p1479 : 0 ≤ (x6_2 : Int) := of_decide_eq_true (by first | (with_reducible assumption) | assumption)
                        have q1479 : x6_2 < (((rd_T71 l0_0 x4_1).f2).length : Int) := of_decide_eq_true (by first | (with_reducible assumption) | assumption)
                        obtain ⟨ad1479, e1479, hx1479_0, hx1479_1⟩ := at_T142 HR1478_2.out x6_2 p1479 q1479
                        cases e1479
                        replace hx1479_0 := (HB.out.cell (World.block_lt_of_cell? w _ hx1479_0)).trans hx1479_0
                        replace hx1479_1 := (HB.out.cell (World.block_lt_of_cell? w _ hx1479_1)).trans hx1479_1
                        replace p1479 := eq_true p1479
                        replace q1479 := eq_true q1479
                        go_wp2
                        go_roundg k2
                        case measure => have := HK1.out; have := HK2.out; omega
                        case rel => exact ⟨((((rd_T142 ((rd_T71 l0_0 x4_1).f2) x6_2).f0) == 0)), (wrap64 (x6_2 + 1)), (by first | rfl | (simp; done) | (simp [*]; done)), (by first | rfl | (simp; done) | (simp [*]; done)), H', ⟨by have := HK1.out; have := HK2.out; omega⟩, ⟨by (with_reducible repeat (first | apply Kd.R_alloc | apply Kd.R_drewN | apply Kd.R_drew)); exact HO_3.out⟩, ⟨by (with_reducible repeat (first | refine blk_drewN ?_ _ | refine blk_drew ?_ | refine blk_alloc ?_ _)); exact BK1472.out⟩, ⟨by repeat (first | (with_reducible first | exact HB.out | apply below_alloc | apply pw_below_drewN | apply below_drew1 | refine below_set ?_ GE1472.out) | exact HB.out)⟩⟩
                      · rw [if_neg c12] at H
                        exact absurd H (by simp)
                    · replace c11 := Bool.eq_false_iff.mpr c11
                      subst c11
                      have H1 : (spec_FreeBlocks.l1 k2 x3_1 x4_1 false (wrap64 (x6_2 + 1)) l0_0) = some r := by rw [if_neg (show ¬ (false = true) by decide)] at H; exact H
                      clear H
                      have H := H1
                      clear H1
                      have H' := Aside0.mk H
                      clear H
                      have hcz14_0 : wr.cell? ⟨gb1472, 0, none⟩ = some (.slice (some ad1476) l0_0.length c0_0) := (blk_cell BK1472.out 0).trans rfl
                      have hfz14_0 := blk_frozen BK1472.out 0
                      have p1477 : 0 ≤ (x4_1 : Int) := of_decide_eq_true (by first | (with_reducible assumption) | assumption)
                      have q1477 : x4_1 < (l0_0.length : Int) := of_decide_eq_true (by first | (with_reducible assumption) | assumption)
                      obtain ⟨ad1477, A1477_2, c1477_2, e1477, hx1477_0, hx1477_1, hx1477_2, hl1477_2, hi1477_2⟩ := at_T71 HR0_0.out x4_1 p1477 q1477
                      obtain rfl : ad1476 = ad1477 := (by injection e1477)
                      replace hx1477_0 := (HB.out.cell (World.block_lt_of_cell? w _ hx1477_0)).trans hx1477_0
                      replace hx1477_1 := (HB.out.cell (World.block_lt_of_cell? w _ hx1477_1)).trans hx1477_1
                      replace hx1477_2 := (HB.out.cell (World.block_lt_of_cell? w _ hx1477_2)).trans hx1477_2
                      have HR1477_2 := Aside0.mk hi1477_2
                      have HC1477_2 := Aside0.mk hl1477_2
                      clear hi1477_2 hl1477_2
                      replace p1477 := eq_true p1477
                      replace q1477 := eq_true q1477
                      go_wp2
                      go_roundg k2
                      case measure => have := HK1.out; have := HK2.out; omega
                      case rel => exact ⟨(false), (wrap64 (x6_2 + 1)), (by first | rfl | (simp; done) | (simp [*]; done)), (by first | rfl | (simp; done) | (simp [*]; done)), H', ⟨by have := HK1.out; have := HK2.out; omega⟩, ⟨by (with_reducible repeat (first | apply Kd.R_alloc | apply Kd.R_drewN | apply Kd.R_drew)); exact HO_3.out⟩, ⟨by (with_reducible repeat (first | refine blk_drewN ?_ _ | refine blk_drew ?_ | refine blk_alloc ?_ _)); exact BK1472.out⟩, ⟨by repeat (first | (with_reducible first | exact HB.out | apply below_alloc | apply pw_below_drewN | apply below_drew1 | refine below_set ?_ GE1472.out) | exact HB.out)⟩⟩
                  · rw [if_neg c10] at H
                    have c10b0 : decide (x6_2 < (((rd_T71 l0_0 x4_1).f2).length : Int)) = false := decide_eq_false c10
                    clear c10
                    by_cases c15 : x5_2 = true
                    · subst c15
                      have H1 : (if x3_1.length < 17592186044416 then (spec_FreeBlocks.l0 k2 (x3_1 ++ [x4_1]) (wrap64 (x4_1 + 1)) l0_0) else (none)) = some r := by rw [if_pos rfl] at H; exact H
                      clear H
                      have H := H1
                      clear H1
                      by_cases c16 : x3_1.length < 17592186044416
                      · rw [if_pos c16] at H
                        have LMc16 := Aside0.mk c16
                        clear c16
                        obtain ⟨y1480, hy1480⟩ : ∃ y_ : List Int, y_ = (x3_1 ++ [x4_1]) := ⟨_, rfl⟩
                        replace H : (spec_FreeBlocks.l0 k2 y1480 (wrap64 (x4_1 + 1)) l0_0) = some r := by first | (rw [hy1480]; with_reducible exact H) | (have H2_ := (Option.bind_some _ _).symm.trans H; rw [hy1480]; with_reducible exact H2_) | (have H2_ := (Option.bind_some _ _).symm.trans H; with_reducible exact H2_) | with_reducible exact H | (rw [hy1480]; exact H) | exact H
                        have Ny1480 := Aside0.mk hy1480
                        clear hy1480
                        have H' := Aside0.mk H
                        clear H
                        have hcz17_0 : wr.cell? ⟨gb1472, 0, none⟩ = some (.slice (some ad1476) l0_0.length c0_0) := (blk_cell BK1472.out 0).trans rfl
                        have hfz17_0 := blk_frozen BK1472.out 0
                        have p1477 : 0 ≤ (x4_1 : Int) := of_decide_eq_true (by first | (with_reducible assumption) | assumption)
                        have q1477 : x4_1 < (l0_0.length : Int) := of_decide_eq_true (by first | (with_reducible assumption) | assumption)
                        obtain ⟨ad1477, A1477_2, c1477_2, e1477, hx1477_0, hx1477_1, hx1477_2, hl1477_2, hi1477_2⟩ := at_T71 HR0_0.out x4_1 p1477 q1477
                        obtain rfl : ad1476 = ad1477 := (by injection e1477)
                        replace hx1477_0 := (HB.out.cell (World.block_lt_of_cell? w _ hx1477_0)).trans hx1477_0
                        replace hx1477_1 := (HB.out.cell (World.block_lt_of_cell? w _ hx1477_1)).trans hx1477_1
                        replace hx1477_2 := (HB.out.cell (World.block_lt_of_cell? w _ hx1477_2)).trans hx1477_2
                        have HR1477_2 := Aside0.mk hi1477_2
                        have HC1477_2 := Aside0.mk hl1477_2
                        clear hi1477_2 hl1477_2
                        replace p1477 := eq_true p1477
                        replace q1477 := eq_true q1477
                        go_wp2_with (first | ((with_reducible refine gate_builtin (b := .append) (xs := #[.tmp 48, .tmp 50]) rfl ?_); at_builtin; refine Kd.R_append (Kd.int .i64) (w0 := w) w.heap.size rfl (.tmp 48) (.tmp 50) 26 3 (.int .i64 0) 8 rfl Try.underlying26 info3 rfl (by decide) (by omega) u3 x3_1 x4_1 [.int .i64 x4_1] (fun _ => True) (fun _ => False) rfl rfl ?aP (fun _ hk => hk.elim) ?aF ?aO ?aB ?aS ?aL ?_; (case aP => exact rfl); (case aB => exact (by repeat (first | (with_reducible first | exact HB.out | apply below_alloc | apply pw_below_drewN | apply below_drew1 | refine below_set ?_ GE1472.out) | exact HB.out))); (case aF => exact (fun _ _ => trivial)); (case aO => exact (by (with_reducible repeat (first | apply Kd.R_alloc | apply Kd.R_drewN | apply Kd.R_drew)); exact HO_3.out)); (case aS => exact (below_size (by repeat (first | (with_reducible first | exact HB.out | apply below_alloc | apply pw_below_drewN | apply below_drew1 | refine below_set ?_ GE1472.out) | exact HB.out)))); (case aL => have := LMc16.out; omega); intro v1481 w18 ho hb hg hat; rw [← Ny1480.out] at ho; have n0_ := Aside0.mk (blk_grown (g := gb1472) (o := .cells #[.slice (some ad1476) l0_0.length c0_0] 63 (0, 0)) (by (with_reducible repeat (first | refine blk_drewN ?_ _ | refine blk_drew ?_ | refine blk_alloc ?_ _)); exact BK1472.out) hg (Kd.R_ne HO_3.out BK1472.out (by decide))); have n1_ := Aside0.mk (hb); have n2_ := Aside0.mk (ho); clear BK1472; clear HB; clear HO_3; have BK1472 := n0_; have HB := n1_; have HO1482 := n2_; clear n0_ n1_ n2_; clear ho hb hg hat))
                        go_roundg k2
                        case measure => have := HK1.out; have := HK2.out; omega
                        case rel => exact ⟨(y1480), (wrap64 (x4_1 + 1)), (by first | rfl | (simp; done) | (simp [*]; done)), H', ⟨by have := HK1.out; have := HK2.out; omega⟩, ⟨by (with_reducible repeat (first | apply Kd.R_alloc | apply Kd.R_drewN | apply Kd.R_drew)); exact HO1482.out⟩, ⟨by (with_reducible repeat (first | refine blk_drewN ?_ _ | refine blk_drew ?_ | refine blk_alloc ?_ _)); exact BK1472.out⟩, ⟨by repeat (first | (with_reducible first | exact HB.out | apply below_alloc | apply pw_below_drewN | apply below_drew1 | refine below_set ?_ GE1472.out) | exact HB.out)⟩⟩
                      · rw [if_neg c16] at H
                        exact absurd H (by simp)
                    · replace c15 := Bool.eq_false_iff.mpr c15
                      subst c15
                      have H1 : (spec_FreeBlocks.l0 k2 x3_1 (wrap64 (x4_1 + 1)) l0_0) = some r := by rw [if_neg (show ¬ (false = true) by decide)] at H; exact H
                      clear H
                      have H := H1
                      clear H1
                      have H' := Aside0.mk H
                      clear H
                      have hcz19_0 : wr.cell? ⟨gb1472, 0, none⟩ = some (.slice (some ad1476) l0_0.length c0_0) := (blk_cell BK1472.out 0).trans rfl
                      have hfz19_0 := blk_frozen BK1472.out 0
                      have p1477 : 0 ≤ (x4_1 : Int) := of_decide_eq_true (by first | (with_reducible assumption) | assumption)
                      have q1477 : x4_1 < (l0_0.length : Int) := of_decide_eq_true (by first | (with_reducible assumption) | assumption)
                      obtain ⟨ad1477, A1477_2, c1477_2, e1477, hx1477_0, hx1477_1, hx1477_2, hl1477_2, hi1477_2⟩ := at_T71 HR0_0.out x4_1 p1477 q1477
                      obtain rfl : ad1476 = ad1477 := (by injection e1477)
                      replace hx1477_0 := (HB.out.cell (World.block_lt_of_cell? w _ hx1477_0)).trans hx1477_0
                      replace hx1477_1 := (HB.out.cell (World.block_lt_of_cell? w _ hx1477_1)).trans hx1477_1
                      replace hx1477_2 := (HB.out.cell (World.block_lt_of_cell? w _ hx1477_2)).trans hx1477_2
                      have HR1477_2 := Aside0.mk hi1477_2
                      have HC1477_2 := Aside0.mk hl1477_2
                      clear hi1477_2 hl1477_2
                      replace p1477 := eq_true p1477
                      replace q1477 := eq_true q1477
                      go_wp2
                      go_roundg k2
                      case measure => have := HK1.out; have := HK2.out; omega
                      case rel => exact ⟨(x3_1), (wrap64 (x4_1 + 1)), (by first | rfl | (simp; done) | (simp [*]; done)), H', ⟨by have := HK1.out; have := HK2.out; omega⟩, ⟨by (with_reducible repeat (first | apply Kd.R_alloc | apply Kd.R_drewN | apply Kd.R_drew)); exact HO_3.out⟩, ⟨by (with_reducible repeat (first | refine blk_drewN ?_ _ | refine blk_drew ?_ | refine blk_alloc ?_ _)); exact BK1472.out⟩, ⟨by repeat (first | (with_reducible first | exact HB.out | apply below_alloc | apply pw_below_drewN | apply below_drew1 | refine below_set ?_ GE1472.out) | exact HB.out)⟩⟩
                · rw [if_neg c9] at H
                  exact absurd H (by simp)
              · rw [if_neg c8] at H
                exact absurd H (by simp)
        · rw [if_neg c6] at H
          exact absurd H (by simp)
      · rw [if_neg c5] at H
        have c5b0 : decide (x4_1 < (l0_0.length : Int)) = false := decide_eq_false c5
        clear c5
        obtain rfl := Option.some.inj H
        have hcz20_0 : wr.cell? ⟨gb1472, 0, none⟩ = some (.slice A0_0 l0_0.length c0_0) := (blk_cell BK1472.out 0).trans rfl
        have hfz20_0 := blk_frozen BK1472.out 0
        go_wp2
        go_ret
        exact ⟨_, by first | rfl | (simp [errW_none, errW_some] <;> rfl) | (simp [*, errW_none, errW_some] <;> rfl), by (with_reducible repeat (first | apply Kd.R_alloc | apply Kd.R_drewN | apply Kd.R_drew)); exact HO_3.out, by repeat (first | (with_reducible first | exact HB.out | apply below_alloc | apply pw_below_drewN | apply below_drew1 | refine below_set ?_ GE1472.out) | exact HB.out)⟩

end Go.Proofs.Ytdolplcbokioaaa.PB
