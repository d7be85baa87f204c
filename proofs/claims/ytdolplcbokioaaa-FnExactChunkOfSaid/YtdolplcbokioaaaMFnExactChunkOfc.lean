/- FnExactChunkOf: functions of the translation as Lean functions with what their calls come to, plain lemmas on them, and, at the end, the row. Parts of one proof, merged by a program of this session; each part's own sentence stands at its head. -/
import Derived.Test.YtdolplcbokioaaaWWords
import Derived.ChangeArms
import Derived.DataReads
import Derived.Test.YtdolplcbokioaaaRows
import Derived.WalkKit
import Derived.ProofKit
import Derived.OpenShut
import Derived.ShutString
import Derived.ChangeOld
import Derived.Below
import Derived.SizedLaws
import Derived.Test.YtdolplcbokioaaaMFnExactChunkOfb
/- Functions of the translation as plain Lean functions, and for each that its call comes to just what its Lean function answers; its conditions stand in each theorem. Written by a program of this session. -/
namespace Go.Proofs.Ytdolplcbokioaaa.PB
open Go.RowKit Go.Proofs.YtdolplcbokioaaaW.PrintWords Go.Proofs.YtdolplcbokioaaaW.PrintLast Go.Proofs.YtdolplcbokioaaaW.PrintMore
attribute [local go_sem] max2_int min2_int max_two min_two max_three min_three max_four min_four   -- for this text's walks alone
set_option linter.unusedVariables false
set_option linter.unusedSimpArgs false

/-! ### laws_eqStore: function 48 -/
def laws_eqStore.f (k : Nat) (l0_0 : List (S147)) (l0_1 : List (S133)) (a0_2 : Int) (l1_0 : List (S147)) (l1_1 : List (S133)) (a1_2 : Int) : Option (Bool) := (laws_eqVolS.f k l0_0 l1_0).bind fun t1109 => (if t1109 = true then ((laws_eqArena.f k l0_1 l1_1).bind fun t1110 => (if t1110 = true then (if a0_2 = a1_2 then (some true) else (some false)) else (some false))) else (some false))
theorem laws_eqStore.mono : ∀ a0 a1 a2 a3 a4 a5 k, LeO (laws_eqStore.f k a0 a1 a2 a3 a4 a5) (laws_eqStore.f (k + 1) a0 a1 a2 a3 a4 a5) := by
  intro a0 a1 a2 a3 a4 a5 k
  unfold laws_eqStore.f
  repeat' first
      | (with_reducible exact laws_eqArena.mono _ _ _)
      | (with_reducible exact laws_eqVolS.mono _ _ _)
      | (with_reducible exact LeO.refl _)
      | (with_reducible exact LeO.none _)
      | (with_reducible refine LeO.ite ?_ ?_)
      | (with_reducible refine LeO.bind ?_ (fun _ => ?_))
      | exact laws_eqArena.mono _ _ _
      | exact laws_eqVolS.mono _ _ _
      | exact LeO.none _
      | refine LeO.ite ?_ ?_
      | refine LeO.bind ?_ (fun _ => ?_)
set_option maxHeartbeats 8000000 in
set_option maxRecDepth 100000 in
theorem laws_eqStore.calls (k : Nat) (A0_0 : Option Addr) (c0_0 : Nat) (l0_0 : List (S147)) (A0_1 : Option Addr) (c0_1 : Nat) (l0_1 : List (S133)) (a0_2 : Int) (A1_0 : Option Addr) (c1_0 : Nat) (l1_0 : List (S147)) (A1_1 : Option Addr) (c1_1 : Nat) (l1_1 : List (S133)) (a1_2 : Int) (r : Bool) (w : World) (hr0_0 : Kd.C k147 w A0_0 l0_0.length l0_0) (hc0_0 : l0_0.length ≤ c0_0) (hr0_1 : Kd.C k133 w A0_1 l0_1.length l0_1) (hc0_1 : l0_1.length ≤ c0_1) (hr1_0 : Kd.C k147 w A1_0 l1_0.length l1_0) (hc1_0 : l1_0.length ≤ c1_0) (hr1_1 : Kd.C k133 w A1_1 l1_1.length l1_1) (hc1_1 : l1_1.length ≤ c1_1) (h : laws_eqStore.f k l0_0 l0_1 a0_2 l1_0 l1_1 a1_2 = some r) :
    Calls Try.prog 48 #[.agg #[.slice A0_0 l0_0.length c0_0, .slice A0_1 l0_1.length c0_1, .int .i64 a0_2], .agg #[.slice A1_0 l1_0.length c1_0, .slice A1_1 l1_1.length c1_1, .int .i64 a1_2]] w fun e w' => e = .returned (.bool r) ∧ Below w.heap.size w w' := by
  have hu83 := Try.underlying83
  have hu44 := Try.underlying44
  have HR0_0 := Aside0.mk hr0_0
  have HC0_0 := Aside0.mk hc0_0
  clear hr0_0 hc0_0
  have HR0_1 := Aside0.mk hr0_1
  have HC0_1 := Aside0.mk hc0_1
  clear hr0_1 hc0_1
  have HR1_0 := Aside0.mk hr1_0
  have HC1_0 := Aside0.mk hc1_0
  clear hr1_0 hc1_0
  have HR1_1 := Aside0.mk hr1_1
  have HC1_1 := Aside0.mk hc1_1
  clear hr1_1 hc1_1
  have HB := Aside0.mk (Below.refl w.heap.size w)
  have H : ((laws_eqVolS.f k l0_0 l1_0).bind fun t1109 => (if t1109 = true then ((laws_eqArena.f k l0_1 l1_1).bind fun t1110 => (if t1110 = true then (if a0_2 = a1_2 then (some true) else (some false)) else (some false))) else (some false))) = some r := h
  clear h
  replace H := Option.bind_eq_some_iff.mp H
  obtain ⟨t1109, A30, H⟩ := H
  replace H : (if t1109 = true then ((laws_eqArena.f k l0_1 l1_1).bind fun t1110 => (if t1110 = true then (if a0_2 = a1_2 then (some true) else (some false)) else (some false))) else (some false)) = some r := H
  have A3 := Aside0.mk A30
  clear A30
  by_cases c4 : t1109 = true
  · subst c4
    have H1 : ((laws_eqArena.f k l0_1 l1_1).bind fun t1110 => (if t1110 = true then (if a0_2 = a1_2 then (some true) else (some false)) else (some false))) = some r := by rw [if_pos rfl] at H; exact H
    clear H
    have H := H1
    clear H1
    replace H := Option.bind_eq_some_iff.mp H
    obtain ⟨t1110, A50, H⟩ := H
    replace H : (if t1110 = true then (if a0_2 = a1_2 then (some true) else (some false)) else (some false)) = some r := H
    have A5 := Aside0.mk A50
    clear A50
    by_cases c6 : t1110 = true
    · subst c6
      have H1 : (if a0_2 = a1_2 then (some true) else (some false)) = some r := by rw [if_pos rfl] at H; exact H
      clear H
      have H := H1
      clear H1
      by_cases c7 : a0_2 = a1_2
      · rw [if_pos c7] at H
        have c7b0 : (a0_2 == a1_2) = true := beq_iff_eq.mpr c7
        have c7b1 : (a0_2 != a1_2) = false := bne_eq_false_iff_eq.mpr c7
        clear c7
        obtain rfl := Option.some.inj H
        go_enter Try.func48, Try.ntmps48
        go_wp2_with (first | ((with_reducible refine gate_dst (N := 2) rfl ?_); refine box_event ?hg (N := 2) ?hd (cs := #[.slice A0_0 l0_0.length c0_0, .slice A0_1 l0_1.length c0_1, .int .i64 a0_2]) (t := 83) ?hr ?_; (case hd => rfl); (case hg => rfl); (case hr => first | (go_simp; done) | (go_simp; rfl)); intro gb1107 hg w8 hbox hb; have n0_ := Aside0.mk (below_step (by repeat (first | (with_reducible first | exact HB.out | apply below_alloc | apply pw_below_drewN | apply below_drew1) | exact HB.out)) hb); have n1_ := Aside0.mk (hbox); have n2_ := Aside0.mk ((by rw [hg]; exact (below_size (by repeat (first | (with_reducible first | exact HB.out | apply below_alloc | apply pw_below_drewN | apply below_drew1) | exact HB.out))) : w.heap.size ≤ gb1107)); have n3_ := Aside0.mk ((by rw [hg]; exact (below_size (by repeat (first | (with_reducible first | exact HB.out | apply below_alloc | apply pw_below_drewN | apply below_drew1) | exact HB.out))) : w.heap.size ≤ gb1107)); clear HB; have HB := n0_; have BK1107 := n1_; have GW1107 := n2_; have GE1107 := n3_; clear n0_ n1_ n2_ n3_; clear hb hbox hg) | ((with_reducible refine gate_dst (N := 3) rfl ?_); refine box_event ?hg (N := 3) ?hd (cs := #[.slice A1_0 l1_0.length c1_0, .slice A1_1 l1_1.length c1_1, .int .i64 a1_2]) (t := 83) ?hr ?_; (case hd => rfl); (case hg => rfl); (case hr => first | (go_simp; done) | (go_simp; rfl)); intro gb1108 hg w9 hbox hb; have n0_ := Aside0.mk (blk_below (g := gb1107) (o := .cells #[.slice A0_0 l0_0.length c0_0, .slice A0_1 l0_1.length c0_1, .int .i64 a0_2] 83 (0, 0)) (by (with_reducible repeat (first | refine blk_drewN ?_ _ | refine blk_drew ?_ | refine blk_alloc ?_ _)); exact BK1107.out) hb); have n1_ := Aside0.mk (below_step (by repeat (first | (with_reducible first | exact HB.out | apply below_alloc | apply pw_below_drewN | apply below_drew1 | refine below_set ?_ GE1107.out) | exact HB.out)) hb); have n2_ := Aside0.mk (hbox); have n3_ := Aside0.mk ((by rw [hg]; exact (below_size (by repeat (first | (with_reducible first | exact HB.out | apply below_alloc | apply pw_below_drewN | apply below_drew1 | refine below_set ?_ GE1107.out) | exact HB.out))) : w.heap.size ≤ gb1108)); have n4_ := Aside0.mk ((by rw [hg]; exact (below_size (by repeat (first | (with_reducible first | exact HB.out | apply below_alloc | apply pw_below_drewN | apply below_drew1 | refine below_set ?_ GE1107.out) | exact HB.out))) : w.heap.size ≤ gb1108)); have n5_ := Aside0.mk ((by rw [hg]; exact Nat.ne_of_lt (blk_lt (g := gb1107) (o := .cells #[.slice A0_0 l0_0.length c0_0, .slice A0_1 l0_1.length c0_1, .int .i64 a0_2] 83 (0, 0)) (by (with_reducible repeat (first | refine blk_drewN ?_ _ | refine blk_drew ?_ | refine blk_alloc ?_ _)); exact BK1107.out)) : gb1107 ≠ gb1108)); have n6_ := Aside0.mk ((by rw [hg]; exact Nat.ne_of_gt (blk_lt (g := gb1107) (o := .cells #[.slice A0_0 l0_0.length c0_0, .slice A0_1 l0_1.length c0_1, .int .i64 a0_2] 83 (0, 0)) (by (with_reducible repeat (first | refine blk_drewN ?_ _ | refine blk_drew ?_ | refine blk_alloc ?_ _)); exact BK1107.out)) : gb1108 ≠ gb1107)); clear BK1107; clear HB; have BK1107 := n0_; have HB := n1_; have BK1108 := n2_; have GW1108 := n3_; have GE1108 := n4_; have NB1107_1108 := n5_; have NB1108_1107 := n6_; clear n0_ n1_ n2_ n3_ n4_ n5_ n6_; clear hb hbox hg; have hnb10 := NB1107_1108.out; have hnc10 := NB1108_1107.out; have hcz11_0 : w9.cell? ⟨gb1107, 0, none⟩ = some (.slice A0_0 l0_0.length c0_0) := (blk_cell BK1107.out 0).trans rfl; have hcz11_1 : w9.cell? ⟨gb1107, 1, none⟩ = some (.slice A0_1 l0_1.length c0_1) := (blk_cell BK1107.out 1).trans rfl; have hcz11_2 : w9.cell? ⟨gb1107, 2, none⟩ = some (.int .i64 a0_2) := (blk_cell BK1107.out 2).trans rfl; have hfz11_0 := blk_frozen BK1107.out 0; have hfz11_1 := blk_frozen BK1107.out 1; have hfz11_2 := blk_frozen BK1107.out 2; have hcz12_0 : w9.cell? ⟨gb1108, 0, none⟩ = some (.slice A1_0 l1_0.length c1_0) := (blk_cell BK1108.out 0).trans rfl; have hcz12_1 : w9.cell? ⟨gb1108, 1, none⟩ = some (.slice A1_1 l1_1.length c1_1) := (blk_cell BK1108.out 1).trans rfl; have hcz12_2 : w9.cell? ⟨gb1108, 2, none⟩ = some (.int .i64 a1_2) := (blk_cell BK1108.out 2).trans rfl; have hfz12_0 := blk_frozen BK1108.out 0; have hfz12_1 := blk_frozen BK1108.out 1; have hfz12_2 := blk_frozen BK1108.out 2) | ((with_reducible refine gate_callee (f := 116) rfl ?_); refine goesL_ (some 9) rfl rfl Try.func116 (by kernel_rfl) rfl #[.slice A0_0 l0_0.length c0_0, .slice A1_0 l1_0.length c1_0] rfl (by (try simp only [List.map_toArray, List.map_cons, List.map_nil]); first | done | rfl | (simp only [List.length_drop, List.length_take]; rfl)) ?_; (with_reducible refine (laws_eqVolS.calls k _ _ l0_0 _ _ l1_0 true _ ?side1 ?side2 ?side3 ?side4 A3.out).mono ?_); (case side1 => repeat (first | exact (Kd.C_below HR0_0.out HB.out) | (with_reducible refine Kd.C_alloc ?_ _) | (with_reducible refine Kd.C_drewN ?_ _) | (with_reducible refine Kd.C_drew ?_))); (case side2 => exact HC0_0.out); (case side3 => repeat (first | exact (Kd.C_below HR1_0.out HB.out) | (with_reducible refine Kd.C_alloc ?_ _) | (with_reducible refine Kd.C_drewN ?_ _) | (with_reducible refine Kd.C_drew ?_))); (case side4 => exact HC1_0.out); rintro e w13 ⟨rfl, hb⟩; refine ⟨_, rfl, ?_⟩; have n0_ := Aside0.mk (blk_below (g := gb1107) (o := .cells #[.slice A0_0 l0_0.length c0_0, .slice A0_1 l0_1.length c0_1, .int .i64 a0_2] 83 (0, 0)) (by (with_reducible repeat (first | refine blk_drewN ?_ _ | refine blk_drew ?_ | refine blk_alloc ?_ _)); exact BK1107.out) hb); have n1_ := Aside0.mk (blk_below (g := gb1108) (o := .cells #[.slice A1_0 l1_0.length c1_0, .slice A1_1 l1_1.length c1_1, .int .i64 a1_2] 83 (0, 0)) (by (with_reducible repeat (first | refine blk_drewN ?_ _ | refine blk_drew ?_ | refine blk_alloc ?_ _)); exact BK1108.out) hb); have n2_ := Aside0.mk (below_step (by repeat (first | (with_reducible first | exact HB.out | apply below_alloc | apply pw_below_drewN | apply below_drew1 | refine below_set ?_ GE1107.out | refine below_set ?_ GE1108.out) | exact HB.out)) hb); clear BK1107; clear BK1108; clear HB; have BK1107 := n0_; have BK1108 := n1_; have HB := n2_; clear n0_ n1_ n2_; (try clear hb); (try clear hb2); (try clear hk); (try clear hi); have hcz14_0 : w13.cell? ⟨gb1107, 0, none⟩ = some (.slice A0_0 l0_0.length c0_0) := (blk_cell BK1107.out 0).trans rfl; have hcz14_1 : w13.cell? ⟨gb1107, 1, none⟩ = some (.slice A0_1 l0_1.length c0_1) := (blk_cell BK1107.out 1).trans rfl; have hcz14_2 : w13.cell? ⟨gb1107, 2, none⟩ = some (.int .i64 a0_2) := (blk_cell BK1107.out 2).trans rfl; have hfz14_0 := blk_frozen BK1107.out 0; have hfz14_1 := blk_frozen BK1107.out 1; have hfz14_2 := blk_frozen BK1107.out 2; have hcz15_0 : w13.cell? ⟨gb1108, 0, none⟩ = some (.slice A1_0 l1_0.length c1_0) := (blk_cell BK1108.out 0).trans rfl; have hcz15_1 : w13.cell? ⟨gb1108, 1, none⟩ = some (.slice A1_1 l1_1.length c1_1) := (blk_cell BK1108.out 1).trans rfl; have hcz15_2 : w13.cell? ⟨gb1108, 2, none⟩ = some (.int .i64 a1_2) := (blk_cell BK1108.out 2).trans rfl; have hfz15_0 := blk_frozen BK1108.out 0; have hfz15_1 := blk_frozen BK1108.out 1; have hfz15_2 := blk_frozen BK1108.out 2) | ((with_reducible refine gate_callee (f := 33) rfl ?_); refine goesL_ (some 15) rfl rfl Try.func33 (by kernel_rfl) rfl #[.agg #[.slice A0_1 l0_1.length c0_1], .agg #[.slice A1_1 l1_1.length c1_1]] rfl (by (try simp only [List.map_toArray, List.map_cons, List.map_nil]); first | done | rfl | (simp only [List.length_drop, List.length_take]; rfl)) ?_; (with_reducible refine (laws_eqArena.calls k _ _ l0_1 _ _ l1_1 true _ ?side1 ?side2 ?side3 ?side4 A5.out).mono ?_); (case side1 => repeat (first | exact (Kd.C_below HR0_1.out HB.out) | (with_reducible refine Kd.C_alloc ?_ _) | (with_reducible refine Kd.C_drewN ?_ _) | (with_reducible refine Kd.C_drew ?_))); (case side2 => exact HC0_1.out); (case side3 => repeat (first | exact (Kd.C_below HR1_1.out HB.out) | (with_reducible refine Kd.C_alloc ?_ _) | (with_reducible refine Kd.C_drewN ?_ _) | (with_reducible refine Kd.C_drew ?_))); (case side4 => exact HC1_1.out); rintro e w16 ⟨rfl, hb⟩; refine ⟨_, rfl, ?_⟩; have n0_ := Aside0.mk (blk_below (g := gb1107) (o := .cells #[.slice A0_0 l0_0.length c0_0, .slice A0_1 l0_1.length c0_1, .int .i64 a0_2] 83 (0, 0)) (by (with_reducible repeat (first | refine blk_drewN ?_ _ | refine blk_drew ?_ | refine blk_alloc ?_ _)); exact BK1107.out) hb); have n1_ := Aside0.mk (blk_below (g := gb1108) (o := .cells #[.slice A1_0 l1_0.length c1_0, .slice A1_1 l1_1.length c1_1, .int .i64 a1_2] 83 (0, 0)) (by (with_reducible repeat (first | refine blk_drewN ?_ _ | refine blk_drew ?_ | refine blk_alloc ?_ _)); exact BK1108.out) hb); have n2_ := Aside0.mk (below_step (by repeat (first | (with_reducible first | exact HB.out | apply below_alloc | apply pw_below_drewN | apply below_drew1 | refine below_set ?_ GE1107.out | refine below_set ?_ GE1108.out) | exact HB.out)) hb); clear BK1107; clear BK1108; clear HB; have BK1107 := n0_; have BK1108 := n1_; have HB := n2_; clear n0_ n1_ n2_; (try clear hb); (try clear hb2); (try clear hk); (try clear hi); have hcz17_0 : w16.cell? ⟨gb1107, 0, none⟩ = some (.slice A0_0 l0_0.length c0_0) := (blk_cell BK1107.out 0).trans rfl; have hcz17_1 : w16.cell? ⟨gb1107, 1, none⟩ = some (.slice A0_1 l0_1.length c0_1) := (blk_cell BK1107.out 1).trans rfl; have hcz17_2 : w16.cell? ⟨gb1107, 2, none⟩ = some (.int .i64 a0_2) := (blk_cell BK1107.out 2).trans rfl; have hfz17_0 := blk_frozen BK1107.out 0; have hfz17_1 := blk_frozen BK1107.out 1; have hfz17_2 := blk_frozen BK1107.out 2; have hcz18_0 : w16.cell? ⟨gb1108, 0, none⟩ = some (.slice A1_0 l1_0.length c1_0) := (blk_cell BK1108.out 0).trans rfl; have hcz18_1 : w16.cell? ⟨gb1108, 1, none⟩ = some (.slice A1_1 l1_1.length c1_1) := (blk_cell BK1108.out 1).trans rfl; have hcz18_2 : w16.cell? ⟨gb1108, 2, none⟩ = some (.int .i64 a1_2) := (blk_cell BK1108.out 2).trans rfl; have hfz18_0 := blk_frozen BK1108.out 0; have hfz18_1 := blk_frozen BK1108.out 1; have hfz18_2 := blk_frozen BK1108.out 2))
        go_ret
        exact ⟨by first | rfl | (simp [errW_none, errW_some] <;> rfl) | (simp [*, errW_none, errW_some] <;> rfl), by repeat (first | (with_reducible first | exact HB.out | apply below_alloc | apply pw_below_drewN | apply below_drew1 | refine below_set ?_ GE1107.out | refine below_set ?_ GE1108.out) | exact HB.out)⟩
      · rw [if_neg c7] at H
        have c7b0 : (a0_2 == a1_2) = false := beq_eq_false_iff_ne.mpr c7
        have c7b1 : (a0_2 != a1_2) = true := bne_iff_ne.mpr c7
        obtain rfl := Option.some.inj H
        go_enter Try.func48, Try.ntmps48
        go_wp2_with (first | ((with_reducible refine gate_dst (N := 2) rfl ?_); refine box_event ?hg (N := 2) ?hd (cs := #[.slice A0_0 l0_0.length c0_0, .slice A0_1 l0_1.length c0_1, .int .i64 a0_2]) (t := 83) ?hr ?_; (case hd => rfl); (case hg => rfl); (case hr => first | (go_simp; done) | (go_simp; rfl)); intro gb1107 hg w19 hbox hb; have n0_ := Aside0.mk (below_step (by repeat (first | (with_reducible first | exact HB.out | apply below_alloc | apply pw_below_drewN | apply below_drew1) | exact HB.out)) hb); have n1_ := Aside0.mk (hbox); have n2_ := Aside0.mk ((by rw [hg]; exact (below_size (by repeat (first | (with_reducible first | exact HB.out | apply below_alloc | apply pw_below_drewN | apply below_drew1) | exact HB.out))) : w.heap.size ≤ gb1107)); have n3_ := Aside0.mk ((by rw [hg]; exact (below_size (by repeat (first | (with_reducible first | exact HB.out | apply below_alloc | apply pw_below_drewN | apply below_drew1) | exact HB.out))) : w.heap.size ≤ gb1107)); clear HB; have HB := n0_; have BK1107 := n1_; have GW1107 := n2_; have GE1107 := n3_; clear n0_ n1_ n2_ n3_; clear hb hbox hg) | ((with_reducible refine gate_dst (N := 3) rfl ?_); refine box_event ?hg (N := 3) ?hd (cs := #[.slice A1_0 l1_0.length c1_0, .slice A1_1 l1_1.length c1_1, .int .i64 a1_2]) (t := 83) ?hr ?_; (case hd => rfl); (case hg => rfl); (case hr => first | (go_simp; done) | (go_simp; rfl)); intro gb1108 hg w20 hbox hb; have n0_ := Aside0.mk (blk_below (g := gb1107) (o := .cells #[.slice A0_0 l0_0.length c0_0, .slice A0_1 l0_1.length c0_1, .int .i64 a0_2] 83 (0, 0)) (by (with_reducible repeat (first | refine blk_drewN ?_ _ | refine blk_drew ?_ | refine blk_alloc ?_ _)); exact BK1107.out) hb); have n1_ := Aside0.mk (below_step (by repeat (first | (with_reducible first | exact HB.out | apply below_alloc | apply pw_below_drewN | apply below_drew1 | refine below_set ?_ GE1107.out) | exact HB.out)) hb); have n2_ := Aside0.mk (hbox); have n3_ := Aside0.mk ((by rw [hg]; exact (below_size (by repeat (first | (with_reducible first | exact HB.out | apply below_alloc | apply pw_below_drewN | apply below_drew1 | refine below_set ?_ GE1107.out) | exact HB.out))) : w.heap.size ≤ gb1108)); have n4_ := Aside0.mk ((by rw [hg]; exact (below_size (by repeat (first | (with_reducible first | exact HB.out | apply below_alloc | apply pw_below_drewN | apply below_drew1 | refine below_set ?_ GE1107.out) | exact HB.out))) : w.heap.size ≤ gb1108)); have n5_ := Aside0.mk ((by rw [hg]; exact Nat.ne_of_lt (blk_lt (g := gb1107) (o := .cells #[.slice A0_0 l0_0.length c0_0, .slice A0_1 l0_1.length c0_1, .int .i64 a0_2] 83 (0, 0)) (by (with_reducible repeat (first | refine blk_drewN ?_ _ | refine blk_drew ?_ | refine blk_alloc ?_ _)); exact BK1107.out)) : gb1107 ≠ gb1108)); have n6_ := Aside0.mk ((by rw [hg]; exact Nat.ne_of_gt (blk_lt (g := gb1107) (o := .cells #[.slice A0_0 l0_0.length c0_0, .slice A0_1 l0_1.length c0_1, .int .i64 a0_2] 83 (0, 0)) (by (with_reducible repeat (first | refine blk_drewN ?_ _ | refine blk_drew ?_ | refine blk_alloc ?_ _)); exact BK1107.out)) : gb1108 ≠ gb1107)); clear BK1107; clear HB; have BK1107 := n0_; have HB := n1_; have BK1108 := n2_; have GW1108 := n3_; have GE1108 := n4_; have NB1107_1108 := n5_; have NB1108_1107 := n6_; clear n0_ n1_ n2_ n3_ n4_ n5_ n6_; clear hb hbox hg; have hnb21 := NB1107_1108.out; have hnc21 := NB1108_1107.out; have hcz22_0 : w20.cell? ⟨gb1107, 0, none⟩ = some (.slice A0_0 l0_0.length c0_0) := (blk_cell BK1107.out 0).trans rfl; have hcz22_1 : w20.cell? ⟨gb1107, 1, none⟩ = some (.slice A0_1 l0_1.length c0_1) := (blk_cell BK1107.out 1).trans rfl; have hcz22_2 : w20.cell? ⟨gb1107, 2, none⟩ = some (.int .i64 a0_2) := (blk_cell BK1107.out 2).trans rfl; have hfz22_0 := blk_frozen BK1107.out 0; have hfz22_1 := blk_frozen BK1107.out 1; have hfz22_2 := blk_frozen BK1107.out 2; have hcz23_0 : w20.cell? ⟨gb1108, 0, none⟩ = some (.slice A1_0 l1_0.length c1_0) := (blk_cell BK1108.out 0).trans rfl; have hcz23_1 : w20.cell? ⟨gb1108, 1, none⟩ = some (.slice A1_1 l1_1.length c1_1) := (blk_cell BK1108.out 1).trans rfl; have hcz23_2 : w20.cell? ⟨gb1108, 2, none⟩ = some (.int .i64 a1_2) := (blk_cell BK1108.out 2).trans rfl; have hfz23_0 := blk_frozen BK1108.out 0; have hfz23_1 := blk_frozen BK1108.out 1; have hfz23_2 := blk_frozen BK1108.out 2) | ((with_reducible refine gate_callee (f := 116) rfl ?_); refine goesL_ (some 9) rfl rfl Try.func116 (by kernel_rfl) rfl #[.slice A0_0 l0_0.length c0_0, .slice A1_0 l1_0.length c1_0] rfl (by (try simp only [List.map_toArray, List.map_cons, List.map_nil]); first | done | rfl | (simp only [List.length_drop, List.length_take]; rfl)) ?_; (with_reducible refine (laws_eqVolS.calls k _ _ l0_0 _ _ l1_0 true _ ?side1 ?side2 ?side3 ?side4 A3.out).mono ?_); (case side1 => repeat (first | exact (Kd.C_below HR0_0.out HB.out) | (with_reducible refine Kd.C_alloc ?_ _) | (with_reducible refine Kd.C_drewN ?_ _) | (with_reducible refine Kd.C_drew ?_))); (case side2 => exact HC0_0.out); (case side3 => repeat (first | exact (Kd.C_below HR1_0.out HB.out) | (with_reducible refine Kd.C_alloc ?_ _) | (with_reducible refine Kd.C_drewN ?_ _) | (with_reducible refine Kd.C_drew ?_))); (case side4 => exact HC1_0.out); rintro e w24 ⟨rfl, hb⟩; refine ⟨_, rfl, ?_⟩; have n0_ := Aside0.mk (blk_below (g := gb1107) (o := .cells #[.slice A0_0 l0_0.length c0_0, .slice A0_1 l0_1.length c0_1, .int .i64 a0_2] 83 (0, 0)) (by (with_reducible repeat (first | refine blk_drewN ?_ _ | refine blk_drew ?_ | refine blk_alloc ?_ _)); exact BK1107.out) hb); have n1_ := Aside0.mk (blk_below (g := gb1108) (o := .cells #[.slice A1_0 l1_0.length c1_0, .slice A1_1 l1_1.length c1_1, .int .i64 a1_2] 83 (0, 0)) (by (with_reducible repeat (first | refine blk_drewN ?_ _ | refine blk_drew ?_ | refine blk_alloc ?_ _)); exact BK1108.out) hb); have n2_ := Aside0.mk (below_step (by repeat (first | (with_reducible first | exact HB.out | apply below_alloc | apply pw_below_drewN | apply below_drew1 | refine below_set ?_ GE1107.out | refine below_set ?_ GE1108.out) | exact HB.out)) hb); clear BK1107; clear BK1108; clear HB; have BK1107 := n0_; have BK1108 := n1_; have HB := n2_; clear n0_ n1_ n2_; (try clear hb); (try clear hb2); (try clear hk); (try clear hi); have hcz25_0 : w24.cell? ⟨gb1107, 0, none⟩ = some (.slice A0_0 l0_0.length c0_0) := (blk_cell BK1107.out 0).trans rfl; have hcz25_1 : w24.cell? ⟨gb1107, 1, none⟩ = some (.slice A0_1 l0_1.length c0_1) := (blk_cell BK1107.out 1).trans rfl; have hcz25_2 : w24.cell? ⟨gb1107, 2, none⟩ = some (.int .i64 a0_2) := (blk_cell BK1107.out 2).trans rfl; have hfz25_0 := blk_frozen BK1107.out 0; have hfz25_1 := blk_frozen BK1107.out 1; have hfz25_2 := blk_frozen BK1107.out 2; have hcz26_0 : w24.cell? ⟨gb1108, 0, none⟩ = some (.slice A1_0 l1_0.length c1_0) := (blk_cell BK1108.out 0).trans rfl; have hcz26_1 : w24.cell? ⟨gb1108, 1, none⟩ = some (.slice A1_1 l1_1.length c1_1) := (blk_cell BK1108.out 1).trans rfl; have hcz26_2 : w24.cell? ⟨gb1108, 2, none⟩ = some (.int .i64 a1_2) := (blk_cell BK1108.out 2).trans rfl; have hfz26_0 := blk_frozen BK1108.out 0; have hfz26_1 := blk_frozen BK1108.out 1; have hfz26_2 := blk_frozen BK1108.out 2) | ((with_reducible refine gate_callee (f := 33) rfl ?_); refine goesL_ (some 15) rfl rfl Try.func33 (by kernel_rfl) rfl #[.agg #[.slice A0_1 l0_1.length c0_1], .agg #[.slice A1_1 l1_1.length c1_1]] rfl (by (try simp only [List.map_toArray, List.map_cons, List.map_nil]); first | done | rfl | (simp only [List.length_drop, List.length_take]; rfl)) ?_; (with_reducible refine (laws_eqArena.calls k _ _ l0_1 _ _ l1_1 true _ ?side1 ?side2 ?side3 ?side4 A5.out).mono ?_); (case side1 => repeat (first | exact (Kd.C_below HR0_1.out HB.out) | (with_reducible refine Kd.C_alloc ?_ _) | (with_reducible refine Kd.C_drewN ?_ _) | (with_reducible refine Kd.C_drew ?_))); (case side2 => exact HC0_1.out); (case side3 => repeat (first | exact (Kd.C_below HR1_1.out HB.out) | (with_reducible refine Kd.C_alloc ?_ _) | (with_reducible refine Kd.C_drewN ?_ _) | (with_reducible refine Kd.C_drew ?_))); (case side4 => exact HC1_1.out); rintro e w27 ⟨rfl, hb⟩; refine ⟨_, rfl, ?_⟩; have n0_ := Aside0.mk (blk_below (g := gb1107) (o := .cells #[.slice A0_0 l0_0.length c0_0, .slice A0_1 l0_1.length c0_1, .int .i64 a0_2] 83 (0, 0)) (by (with_reducible repeat (first | refine blk_drewN ?_ _ | refine blk_drew ?_ | refine blk_alloc ?_ _)); exact BK1107.out) hb); have n1_ := Aside0.mk (blk_below (g := gb1108) (o := .cells #[.slice A1_0 l1_0.length c1_0, .slice A1_1 l1_1.length c1_1, .int .i64 a1_2] 83 (0, 0)) (by (with_reducible repeat (first | refine blk_drewN ?_ _ | refine blk_drew ?_ | refine blk_alloc ?_ _)); exact BK1108.out) hb); have n2_ := Aside0.mk (below_step (by repeat (first | (with_reducible first | exact HB.out | apply below_alloc | apply pw_below_drewN | apply below_drew1 | refine below_set ?_ GE1107.out | refine below_set ?_ GE1108.out) | exact HB.out)) hb); clear BK1107; clear BK1108; clear HB; have BK1107 := n0_; have BK1108 := n1_; have HB := n2_; clear n0_ n1_ n2_; (try clear hb); (try clear hb2); (try clear hk); (try clear hi); have hcz28_0 : w27.cell? ⟨gb1107, 0, none⟩ = some (.slice A0_0 l0_0.length c0_0) := (blk_cell BK1107.out 0).trans rfl; have hcz28_1 : w27.cell? ⟨gb1107, 1, none⟩ = some (.slice A0_1 l0_1.length c0_1) := (blk_cell BK1107.out 1).trans rfl; have hcz28_2 : w27.cell? ⟨gb1107, 2, none⟩ = some (.int .i64 a0_2) := (blk_cell BK1107.out 2).trans rfl; have hfz28_0 := blk_frozen BK1107.out 0; have hfz28_1 := blk_frozen BK1107.out 1; have hfz28_2 := blk_frozen BK1107.out 2; have hcz29_0 : w27.cell? ⟨gb1108, 0, none⟩ = some (.slice A1_0 l1_0.length c1_0) := (blk_cell BK1108.out 0).trans rfl; have hcz29_1 : w27.cell? ⟨gb1108, 1, none⟩ = some (.slice A1_1 l1_1.length c1_1) := (blk_cell BK1108.out 1).trans rfl; have hcz29_2 : w27.cell? ⟨gb1108, 2, none⟩ = some (.int .i64 a1_2) := (blk_cell BK1108.out 2).trans rfl; have hfz29_0 := blk_frozen BK1108.out 0; have hfz29_1 := blk_frozen BK1108.out 1; have hfz29_2 := blk_frozen BK1108.out 2))
        go_ret
        exact ⟨by first | rfl | (simp [errW_none, errW_some] <;> rfl) | (simp [*, errW_none, errW_some] <;> rfl), by repeat (first | (with_reducible first | exact HB.out | apply below_alloc | apply pw_below_drewN | apply below_drew1 | refine below_set ?_ GE1107.out | refine below_set ?_ GE1108.out) | exact HB.out)⟩
    · replace c6 := Bool.eq_false_iff.mpr c6
      subst c6
      have H1 : (some false) = some r := by rw [if_neg (show ¬ (false = true) by decide)] at H; exact H
      clear H
      have H := H1
      clear H1
      obtain rfl := Option.some.inj H
      go_enter Try.func48, Try.ntmps48
      go_wp2_with (first | ((with_reducible refine gate_dst (N := 2) rfl ?_); refine box_event ?hg (N := 2) ?hd (cs := #[.slice A0_0 l0_0.length c0_0, .slice A0_1 l0_1.length c0_1, .int .i64 a0_2]) (t := 83) ?hr ?_; (case hd => rfl); (case hg => rfl); (case hr => first | (go_simp; done) | (go_simp; rfl)); intro gb1107 hg w30 hbox hb; have n0_ := Aside0.mk (below_step (by repeat (first | (with_reducible first | exact HB.out | apply below_alloc | apply pw_below_drewN | apply below_drew1) | exact HB.out)) hb); have n1_ := Aside0.mk (hbox); have n2_ := Aside0.mk ((by rw [hg]; exact (below_size (by repeat (first | (with_reducible first | exact HB.out | apply below_alloc | apply pw_below_drewN | apply below_drew1) | exact HB.out))) : w.heap.size ≤ gb1107)); have n3_ := Aside0.mk ((by rw [hg]; exact (below_size (by repeat (first | (with_reducible first | exact HB.out | apply below_alloc | apply pw_below_drewN | apply below_drew1) | exact HB.out))) : w.heap.size ≤ gb1107)); clear HB; have HB := n0_; have BK1107 := n1_; have GW1107 := n2_; have GE1107 := n3_; clear n0_ n1_ n2_ n3_; clear hb hbox hg) | ((with_reducible refine gate_dst (N := 3) rfl ?_); refine box_event ?hg (N := 3) ?hd (cs := #[.slice A1_0 l1_0.length c1_0, .slice A1_1 l1_1.length c1_1, .int .i64 a1_2]) (t := 83) ?hr ?_; (case hd => rfl); (case hg => rfl); (case hr => first | (go_simp; done) | (go_simp; rfl)); intro gb1108 hg w31 hbox hb; have n0_ := Aside0.mk (blk_below (g := gb1107) (o := .cells #[.slice A0_0 l0_0.length c0_0, .slice A0_1 l0_1.length c0_1, .int .i64 a0_2] 83 (0, 0)) (by (with_reducible repeat (first | refine blk_drewN ?_ _ | refine blk_drew ?_ | refine blk_alloc ?_ _)); exact BK1107.out) hb); have n1_ := Aside0.mk (below_step (by repeat (first | (with_reducible first | exact HB.out | apply below_alloc | apply pw_below_drewN | apply below_drew1 | refine below_set ?_ GE1107.out) | exact HB.out)) hb); have n2_ := Aside0.mk (hbox); have n3_ := Aside0.mk ((by rw [hg]; exact (below_size (by repeat (first | (with_reducible first | exact HB.out | apply below_alloc | apply pw_below_drewN | apply below_drew1 | refine below_set ?_ GE1107.out) | exact HB.out))) : w.heap.size ≤ gb1108)); have n4_ := Aside0.mk ((by rw [hg]; exact (below_size (by repeat (first | (with_reducible first | exact HB.out | apply below_alloc | apply pw_below_drewN | apply below_drew1 | refine below_set ?_ GE1107.out) | exact HB.out))) : w.heap.size ≤ gb1108)); have n5_ := Aside0.mk ((by rw [hg]; exact Nat.ne_of_lt (blk_lt (g := gb1107) (o := .cells #[.slice A0_0 l0_0.length c0_0, .slice A0_1 l0_1.length c0_1, .int .i64 a0_2] 83 (0, 0)) (by (with_reducible repeat (first | refine blk_drewN ?_ _ | refine blk_drew ?_ | refine blk_alloc ?_ _)); exact BK1107.out)) : gb1107 ≠ gb1108)); have n6_ := Aside0.mk ((by rw [hg]; exact Nat.ne_of_gt (blk_lt (g := gb1107) (o := .cells #[.slice A0_0 l0_0.length c0_0, .slice A0_1 l0_1.length c0_1, .int .i64 a0_2] 83 (0, 0)) (by (with_reducible repeat (first | refine blk_drewN ?_ _ | refine blk_drew ?_ | refine blk_alloc ?_ _)); exact BK1107.out)) : gb1108 ≠ gb1107)); clear BK1107; clear HB; have BK1107 := n0_; have HB := n1_; have BK1108 := n2_; have GW1108 := n3_; have GE1108 := n4_; have NB1107_1108 := n5_; have NB1108_1107 := n6_; clear n0_ n1_ n2_ n3_ n4_ n5_ n6_; clear hb hbox hg; have hnb32 := NB1107_1108.out; have hnc32 := NB1108_1107.out; have hcz33_0 : w31.cell? ⟨gb1107, 0, none⟩ = some (.slice A0_0 l0_0.length c0_0) := (blk_cell BK1107.out 0).trans rfl; have hcz33_1 : w31.cell? ⟨gb1107, 1, none⟩ = some (.slice A0_1 l0_1.length c0_1) := (blk_cell BK1107.out 1).trans rfl; have hcz33_2 : w31.cell? ⟨gb1107, 2, none⟩ = some (.int .i64 a0_2) := (blk_cell BK1107.out 2).trans rfl; have hfz33_0 := blk_frozen BK1107.out 0; have hfz33_1 := blk_frozen BK1107.out 1; have hfz33_2 := blk_frozen BK1107.out 2; have hcz34_0 : w31.cell? ⟨gb1108, 0, none⟩ = some (.slice A1_0 l1_0.length c1_0) := (blk_cell BK1108.out 0).trans rfl; have hcz34_1 : w31.cell? ⟨gb1108, 1, none⟩ = some (.slice A1_1 l1_1.length c1_1) := (blk_cell BK1108.out 1).trans rfl; have hcz34_2 : w31.cell? ⟨gb1108, 2, none⟩ = some (.int .i64 a1_2) := (blk_cell BK1108.out 2).trans rfl; have hfz34_0 := blk_frozen BK1108.out 0; have hfz34_1 := blk_frozen BK1108.out 1; have hfz34_2 := blk_frozen BK1108.out 2) | ((with_reducible refine gate_callee (f := 116) rfl ?_); refine goesL_ (some 9) rfl rfl Try.func116 (by kernel_rfl) rfl #[.slice A0_0 l0_0.length c0_0, .slice A1_0 l1_0.length c1_0] rfl (by (try simp only [List.map_toArray, List.map_cons, List.map_nil]); first | done | rfl | (simp only [List.length_drop, List.length_take]; rfl)) ?_; (with_reducible refine (laws_eqVolS.calls k _ _ l0_0 _ _ l1_0 true _ ?side1 ?side2 ?side3 ?side4 A3.out).mono ?_); (case side1 => repeat (first | exact (Kd.C_below HR0_0.out HB.out) | (with_reducible refine Kd.C_alloc ?_ _) | (with_reducible refine Kd.C_drewN ?_ _) | (with_reducible refine Kd.C_drew ?_))); (case side2 => exact HC0_0.out); (case side3 => repeat (first | exact (Kd.C_below HR1_0.out HB.out) | (with_reducible refine Kd.C_alloc ?_ _) | (with_reducible refine Kd.C_drewN ?_ _) | (with_reducible refine Kd.C_drew ?_))); (case side4 => exact HC1_0.out); rintro e w35 ⟨rfl, hb⟩; refine ⟨_, rfl, ?_⟩; have n0_ := Aside0.mk (blk_below (g := gb1107) (o := .cells #[.slice A0_0 l0_0.length c0_0, .slice A0_1 l0_1.length c0_1, .int .i64 a0_2] 83 (0, 0)) (by (with_reducible repeat (first | refine blk_drewN ?_ _ | refine blk_drew ?_ | refine blk_alloc ?_ _)); exact BK1107.out) hb); have n1_ := Aside0.mk (blk_below (g := gb1108) (o := .cells #[.slice A1_0 l1_0.length c1_0, .slice A1_1 l1_1.length c1_1, .int .i64 a1_2] 83 (0, 0)) (by (with_reducible repeat (first | refine blk_drewN ?_ _ | refine blk_drew ?_ | refine blk_alloc ?_ _)); exact BK1108.out) hb); have n2_ := Aside0.mk (below_step (by repeat (first | (with_reducible first | exact HB.out | apply below_alloc | apply pw_below_drewN | apply below_drew1 | refine below_set ?_ GE1107.out | refine below_set ?_ GE1108.out) | exact HB.out)) hb); clear BK1107; clear BK1108; clear HB; have BK1107 := n0_; have BK1108 := n1_; have HB := n2_; clear n0_ n1_ n2_; (try clear hb); (try clear hb2); (try clear hk); (try clear hi); have hcz36_0 : w35.cell? ⟨gb1107, 0, none⟩ = some (.slice A0_0 l0_0.length c0_0) := (blk_cell BK1107.out 0).trans rfl; have hcz36_1 : w35.cell? ⟨gb1107, 1, none⟩ = some (.slice A0_1 l0_1.length c0_1) := (blk_cell BK1107.out 1).trans rfl; have hcz36_2 : w35.cell? ⟨gb1107, 2, none⟩ = some (.int .i64 a0_2) := (blk_cell BK1107.out 2).trans rfl; have hfz36_0 := blk_frozen BK1107.out 0; have hfz36_1 := blk_frozen BK1107.out 1; have hfz36_2 := blk_frozen BK1107.out 2; have hcz37_0 : w35.cell? ⟨gb1108, 0, none⟩ = some (.slice A1_0 l1_0.length c1_0) := (blk_cell BK1108.out 0).trans rfl; have hcz37_1 : w35.cell? ⟨gb1108, 1, none⟩ = some (.slice A1_1 l1_1.length c1_1) := (blk_cell BK1108.out 1).trans rfl; have hcz37_2 : w35.cell? ⟨gb1108, 2, none⟩ = some (.int .i64 a1_2) := (blk_cell BK1108.out 2).trans rfl; have hfz37_0 := blk_frozen BK1108.out 0; have hfz37_1 := blk_frozen BK1108.out 1; have hfz37_2 := blk_frozen BK1108.out 2) | ((with_reducible refine gate_callee (f := 33) rfl ?_); refine goesL_ (some 15) rfl rfl Try.func33 (by kernel_rfl) rfl #[.agg #[.slice A0_1 l0_1.length c0_1], .agg #[.slice A1_1 l1_1.length c1_1]] rfl (by (try simp only [List.map_toArray, List.map_cons, List.map_nil]); first | done | rfl | (simp only [List.length_drop, List.length_take]; rfl)) ?_; (with_reducible refine (laws_eqArena.calls k _ _ l0_1 _ _ l1_1 false _ ?side1 ?side2 ?side3 ?side4 A5.out).mono ?_); (case side1 => repeat (first | exact (Kd.C_below HR0_1.out HB.out) | (with_reducible refine Kd.C_alloc ?_ _) | (with_reducible refine Kd.C_drewN ?_ _) | (with_reducible refine Kd.C_drew ?_))); (case side2 => exact HC0_1.out); (case side3 => repeat (first | exact (Kd.C_below HR1_1.out HB.out) | (with_reducible refine Kd.C_alloc ?_ _) | (with_reducible refine Kd.C_drewN ?_ _) | (with_reducible refine Kd.C_drew ?_))); (case side4 => exact HC1_1.out); rintro e w38 ⟨rfl, hb⟩; refine ⟨_, rfl, ?_⟩; have n0_ := Aside0.mk (blk_below (g := gb1107) (o := .cells #[.slice A0_0 l0_0.length c0_0, .slice A0_1 l0_1.length c0_1, .int .i64 a0_2] 83 (0, 0)) (by (with_reducible repeat (first | refine blk_drewN ?_ _ | refine blk_drew ?_ | refine blk_alloc ?_ _)); exact BK1107.out) hb); have n1_ := Aside0.mk (blk_below (g := gb1108) (o := .cells #[.slice A1_0 l1_0.length c1_0, .slice A1_1 l1_1.length c1_1, .int .i64 a1_2] 83 (0, 0)) (by (with_reducible repeat (first | refine blk_drewN ?_ _ | refine blk_drew ?_ | refine blk_alloc ?_ _)); exact BK1108.out) hb); have n2_ := Aside0.mk (below_step (by repeat (first | (with_reducible first | exact HB.out | apply below_alloc | apply pw_below_drewN | apply below_drew1 | refine below_set ?_ GE1107.out | refine below_set ?_ GE1108.out) | exact HB.out)) hb); clear BK1107; clear BK1108; clear HB; have BK1107 := n0_; have BK1108 := n1_; have HB := n2_; clear n0_ n1_ n2_; (try clear hb); (try clear hb2); (try clear hk); (try clear hi)))
      go_ret
      exact ⟨by first | rfl | (simp [errW_none, errW_some] <;> rfl) | (simp [*, errW_none, errW_some] <;> rfl), by repeat (first | (with_reducible first | exact HB.out | apply below_alloc | apply pw_below_drewN | apply below_drew1 | refine below_set ?_ GE1107.out | refine below_set ?_ GE1108.out) | exact HB.out)⟩
  · replace c4 := Bool.eq_false_iff.mpr c4
    subst c4
    have H1 : (some false) = some r := by rw [if_neg (show ¬ (false = true) by decide)] at H; exact H
    clear H
    have H := H1
    clear H1
    obtain rfl := Option.some.inj H
    go_enter Try.func48, Try.ntmps48
    go_wp2_with (first | ((with_reducible refine gate_dst (N := 2) rfl ?_); refine box_event ?hg (N := 2) ?hd (cs := #[.slice A0_0 l0_0.length c0_0, .slice A0_1 l0_1.length c0_1, .int .i64 a0_2]) (t := 83) ?hr ?_; (case hd => rfl); (case hg => rfl); (case hr => first | (go_simp; done) | (go_simp; rfl)); intro gb1107 hg w39 hbox hb; have n0_ := Aside0.mk (below_step (by repeat (first | (with_reducible first | exact HB.out | apply below_alloc | apply pw_below_drewN | apply below_drew1) | exact HB.out)) hb); have n1_ := Aside0.mk (hbox); have n2_ := Aside0.mk ((by rw [hg]; exact (below_size (by repeat (first | (with_reducible first | exact HB.out | apply below_alloc | apply pw_below_drewN | apply below_drew1) | exact HB.out))) : w.heap.size ≤ gb1107)); have n3_ := Aside0.mk ((by rw [hg]; exact (below_size (by repeat (first | (with_reducible first | exact HB.out | apply below_alloc | apply pw_below_drewN | apply below_drew1) | exact HB.out))) : w.heap.size ≤ gb1107)); clear HB; have HB := n0_; have BK1107 := n1_; have GW1107 := n2_; have GE1107 := n3_; clear n0_ n1_ n2_ n3_; clear hb hbox hg) | ((with_reducible refine gate_dst (N := 3) rfl ?_); refine box_event ?hg (N := 3) ?hd (cs := #[.slice A1_0 l1_0.length c1_0, .slice A1_1 l1_1.length c1_1, .int .i64 a1_2]) (t := 83) ?hr ?_; (case hd => rfl); (case hg => rfl); (case hr => first | (go_simp; done) | (go_simp; rfl)); intro gb1108 hg w40 hbox hb; have n0_ := Aside0.mk (blk_below (g := gb1107) (o := .cells #[.slice A0_0 l0_0.length c0_0, .slice A0_1 l0_1.length c0_1, .int .i64 a0_2] 83 (0, 0)) (by (with_reducible repeat (first | refine blk_drewN ?_ _ | refine blk_drew ?_ | refine blk_alloc ?_ _)); exact BK1107.out) hb); have n1_ := Aside0.mk (below_step (by repeat (first | (with_reducible first | exact HB.out | apply below_alloc | apply pw_below_drewN | apply below_drew1 | refine below_set ?_ GE1107.out) | exact HB.out)) hb); have n2_ := Aside0.mk (hbox); have n3_ := Aside0.mk ((by rw [hg]; exact (below_size (by repeat (first | (with_reducible first | exact HB.out | apply below_alloc | apply pw_below_drewN | apply below_drew1 | refine below_set ?_ GE1107.out) | exact HB.out))) : w.heap.size ≤ gb1108)); have n4_ := Aside0.mk ((by rw [hg]; exact (below_size (by repeat (first | (with_reducible first | exact HB.out | apply below_alloc | apply pw_below_drewN | apply below_drew1 | refine below_set ?_ GE1107.out) | exact HB.out))) : w.heap.size ≤ gb1108)); have n5_ := Aside0.mk ((by rw [hg]; exact Nat.ne_of_lt (blk_lt (g := gb1107) (o := .cells #[.slice A0_0 l0_0.length c0_0, .slice A0_1 l0_1.length c0_1, .int .i64 a0_2] 83 (0, 0)) (by (with_reducible repeat (first | refine blk_drewN ?_ _ | refine blk_drew ?_ | refine blk_alloc ?_ _)); exact BK1107.out)) : gb1107 ≠ gb1108)); have n6_ := Aside0.mk ((by rw [hg]; exact Nat.ne_of_gt (blk_lt (g := gb1107) (o := .cells #[.slice A0_0 l0_0.length c0_0, .slice A0_1 l0_1.length c0_1, .int .i64 a0_2] 83 (0, 0)) (by (with_reducible repeat (first | refine blk_drewN ?_ _ | refine blk_drew ?_ | refine blk_alloc ?_ _)); exact BK1107.out)) : gb1108 ≠ gb1107)); clear BK1107; clear HB; have BK1107 := n0_; have HB := n1_; have BK1108 := n2_; have GW1108 := n3_; have GE1108 := n4_; have NB1107_1108 := n5_; have NB1108_1107 := n6_; clear n0_ n1_ n2_ n3_ n4_ n5_ n6_; clear hb hbox hg; have hnb41 := NB1107_1108.out; have hnc41 := NB1108_1107.out; have hcz42_0 : w40.cell? ⟨gb1107, 0, none⟩ = some (.slice A0_0 l0_0.length c0_0) := (blk_cell BK1107.out 0).trans rfl; have hcz42_1 : w40.cell? ⟨gb1107, 1, none⟩ = some (.slice A0_1 l0_1.length c0_1) := (blk_cell BK1107.out 1).trans rfl; have hcz42_2 : w40.cell? ⟨gb1107, 2, none⟩ = some (.int .i64 a0_2) := (blk_cell BK1107.out 2).trans rfl; have hfz42_0 := blk_frozen BK1107.out 0; have hfz42_1 := blk_frozen BK1107.out 1; have hfz42_2 := blk_frozen BK1107.out 2; have hcz43_0 : w40.cell? ⟨gb1108, 0, none⟩ = some (.slice A1_0 l1_0.length c1_0) := (blk_cell BK1108.out 0).trans rfl; have hcz43_1 : w40.cell? ⟨gb1108, 1, none⟩ = some (.slice A1_1 l1_1.length c1_1) := (blk_cell BK1108.out 1).trans rfl; have hcz43_2 : w40.cell? ⟨gb1108, 2, none⟩ = some (.int .i64 a1_2) := (blk_cell BK1108.out 2).trans rfl; have hfz43_0 := blk_frozen BK1108.out 0; have hfz43_1 := blk_frozen BK1108.out 1; have hfz43_2 := blk_frozen BK1108.out 2) | ((with_reducible refine gate_callee (f := 116) rfl ?_); refine goesL_ (some 9) rfl rfl Try.func116 (by kernel_rfl) rfl #[.slice A0_0 l0_0.length c0_0, .slice A1_0 l1_0.length c1_0] rfl (by (try simp only [List.map_toArray, List.map_cons, List.map_nil]); first | done | rfl | (simp only [List.length_drop, List.length_take]; rfl)) ?_; (with_reducible refine (laws_eqVolS.calls k _ _ l0_0 _ _ l1_0 false _ ?side1 ?side2 ?side3 ?side4 A3.out).mono ?_); (case side1 => repeat (first | exact (Kd.C_below HR0_0.out HB.out) | (with_reducible refine Kd.C_alloc ?_ _) | (with_reducible refine Kd.C_drewN ?_ _) | (with_reducible refine Kd.C_drew ?_))); (case side2 => exact HC0_0.out); (case side3 => repeat (first | exact (Kd.C_below HR1_0.out HB.out) | (with_reducible refine Kd.C_alloc ?_ _) | (with_reducible refine Kd.C_drewN ?_ _) | (with_reducible refine Kd.C_drew ?_))); (case side4 => exact HC1_0.out); rintro e w44 ⟨rfl, hb⟩; refine ⟨_, rfl, ?_⟩; have n0_ := Aside0.mk (blk_below (g := gb1107) (o := .cells #[.slice A0_0 l0_0.length c0_0, .slice A0_1 l0_1.length c0_1, .int .i64 a0_2] 83 (0, 0)) (by (with_reducible repeat (first | refine blk_drewN ?_ _ | refine blk_drew ?_ | refine blk_alloc ?_ _)); exact BK1107.out) hb); have n1_ := Aside0.mk (blk_below (g := gb1108) (o := .cells #[.slice A1_0 l1_0.length c1_0, .slice A1_1 l1_1.length c1_1, .int .i64 a1_2] 83 (0, 0)) (by (with_reducible repeat (first | refine blk_drewN ?_ _ | refine blk_drew ?_ | refine blk_alloc ?_ _)); exact BK1108.out) hb); have n2_ := Aside0.mk (below_step (by repeat (first | (with_reducible first | exact HB.out | apply below_alloc | apply pw_below_drewN | apply below_drew1 | refine below_set ?_ GE1107.out | refine below_set ?_ GE1108.out) | exact HB.out)) hb); clear BK1107; clear BK1108; clear HB; have BK1107 := n0_; have BK1108 := n1_; have HB := n2_; clear n0_ n1_ n2_; (try clear hb); (try clear hb2); (try clear hk); (try clear hi)))
    go_ret
    exact ⟨by first | rfl | (simp [errW_none, errW_some] <;> rfl) | (simp [*, errW_none, errW_some] <;> rfl), by repeat (first | (with_reducible first | exact HB.out | apply below_alloc | apply pw_below_drewN | apply below_drew1 | refine below_set ?_ GE1107.out | refine below_set ?_ GE1108.out) | exact HB.out)⟩

end Go.Proofs.Ytdolplcbokioaaa.PB

/- Functions of the translation as plain Lean functions, and for each that its call comes to just what its Lean function answers; its conditions stand in each theorem. Written by a program of this session. -/
namespace Go.Proofs.Ytdolplcbokioaaa.PB
open Go.RowKit Go.Proofs.YtdolplcbokioaaaW.PrintWords Go.Proofs.YtdolplcbokioaaaW.PrintLast Go.Proofs.YtdolplcbokioaaaW.PrintMore
attribute [local go_sem] max2_int min2_int max_two min_two max_three min_three max_four min_four   -- for this text's walks alone
set_option linter.unusedVariables false
set_option linter.unusedSimpArgs false

/-! ### laws_FnExactChunkOf: function 7 -/
def laws_FnExactChunkOf.f (k : Nat) (l0_0 : List (S184)) (l0_1 : List (S175)) (a0_2 : Int) (a1 : Int) (a2 : Int) : Option (Bool) := (laws_szStore.f k l0_0 l0_1 a0_2 1048576).bind fun t1112 => (if t1112 < 0 then (some true) else ((laws_toStore.f k l0_0 l0_1 a0_2).bind fun bt1113 => ((spec_ChunkOf.f k bt1113.1 bt1113.2.1 bt1113.2.2 a1 a2).bind fun t1120 => ((laws_toStore.f k l0_0 l0_1 a0_2).bind fun bt1121 => ((impl_ChunkOf.f k bt1121.1 bt1121.2.1 bt1121.2.2 a1 a2).bind fun t1129 => (if t1129 = t1120 then ((laws_toStore.f k l0_0 l0_1 a0_2).bind fun bt1130 => ((laws_eqStore.f k bt1121.1 bt1121.2.1 bt1121.2.2 bt1130.1 bt1130.2.1 bt1130.2.2).bind fun t1137 => (if t1137 = true then (some true) else (some false)))) else (some false)))))))
theorem laws_FnExactChunkOf.mono : ∀ a0 a1 a2 a3 a4 k, LeO (laws_FnExactChunkOf.f k a0 a1 a2 a3 a4) (laws_FnExactChunkOf.f (k + 1) a0 a1 a2 a3 a4) := by
  intro a0 a1 a2 a3 a4 k
  unfold laws_FnExactChunkOf.f
  repeat' first
      | (with_reducible exact impl_ChunkOf.mono _ _ _ _ _ _)
      | (with_reducible exact laws_eqStore.mono _ _ _ _ _ _ _)
      | (with_reducible exact laws_szStore.mono _ _ _ _ _)
      | (with_reducible exact laws_toStore.mono _ _ _ _)
      | (with_reducible exact spec_ChunkOf.mono _ _ _ _ _ _)
      | (with_reducible exact LeO.refl _)
      | (with_reducible exact LeO.none _)
      | (with_reducible refine LeO.ite ?_ ?_)
      | (with_reducible refine LeO.bind ?_ (fun _ => ?_))
      | exact impl_ChunkOf.mono _ _ _ _ _ _
      | exact laws_eqStore.mono _ _ _ _ _ _ _
      | exact laws_szStore.mono _ _ _ _ _
      | exact laws_toStore.mono _ _ _ _
      | exact spec_ChunkOf.mono _ _ _ _ _ _
      | exact LeO.none _
      | refine LeO.ite ?_ ?_
      | refine LeO.bind ?_ (fun _ => ?_)
set_option maxHeartbeats 8000000 in
set_option maxRecDepth 100000 in
theorem laws_FnExactChunkOf.calls (k : Nat) (A0_0 : Option Addr) (c0_0 : Nat) (l0_0 : List (S184)) (A0_1 : Option Addr) (c0_1 : Nat) (l0_1 : List (S175)) (a0_2 : Int) (a1 : Int) (a2 : Int) (r : Bool) (hT : Aside0 (r = true)) (w : World) (hr0_0 : Kd.C k184 w A0_0 l0_0.length l0_0) (hc0_0 : l0_0.length ≤ c0_0) (hr0_1 : Kd.C k175 w A0_1 l0_1.length l0_1) (hc0_1 : l0_1.length ≤ c0_1) (h : laws_FnExactChunkOf.f k l0_0 l0_1 a0_2 a1 a2 = some r) :
    Calls Try.prog 7 #[.agg #[.slice A0_0 l0_0.length c0_0, .slice A0_1 l0_1.length c0_1, .int .i64 a0_2], .int .i64 a1, .int .i64 a2] w fun e w' => e = .returned (.bool r) ∧ Below w.heap.size w w' := by
  have hu78 := Try.underlying78
  have hu83 := Try.underlying83
  have HR0_0 := Aside0.mk hr0_0
  have HC0_0 := Aside0.mk hc0_0
  clear hr0_0 hc0_0
  have HR0_1 := Aside0.mk hr0_1
  have HC0_1 := Aside0.mk hc0_1
  clear hr0_1 hc0_1
  have HB := Aside0.mk (Below.refl w.heap.size w)
  have H : ((laws_szStore.f k l0_0 l0_1 a0_2 1048576).bind fun t1112 => (if t1112 < 0 then (some true) else ((laws_toStore.f k l0_0 l0_1 a0_2).bind fun bt1113 => ((spec_ChunkOf.f k bt1113.1 bt1113.2.1 bt1113.2.2 a1 a2).bind fun t1120 => ((laws_toStore.f k l0_0 l0_1 a0_2).bind fun bt1121 => ((impl_ChunkOf.f k bt1121.1 bt1121.2.1 bt1121.2.2 a1 a2).bind fun t1129 => (if t1129 = t1120 then ((laws_toStore.f k l0_0 l0_1 a0_2).bind fun bt1130 => ((laws_eqStore.f k bt1121.1 bt1121.2.1 bt1121.2.2 bt1130.1 bt1130.2.1 bt1130.2.2).bind fun t1137 => (if t1137 = true then (some true) else (some false)))) else (some false)))))))) = some r := h
  clear h
  replace H := Option.bind_eq_some_iff.mp H
  obtain ⟨t1112, A40, H⟩ := H
  replace H : (if t1112 < 0 then (some true) else ((laws_toStore.f k l0_0 l0_1 a0_2).bind fun bt1113 => ((spec_ChunkOf.f k bt1113.1 bt1113.2.1 bt1113.2.2 a1 a2).bind fun t1120 => ((laws_toStore.f k l0_0 l0_1 a0_2).bind fun bt1121 => ((impl_ChunkOf.f k bt1121.1 bt1121.2.1 bt1121.2.2 a1 a2).bind fun t1129 => (if t1129 = t1120 then ((laws_toStore.f k l0_0 l0_1 a0_2).bind fun bt1130 => ((laws_eqStore.f k bt1121.1 bt1121.2.1 bt1121.2.2 bt1130.1 bt1130.2.1 bt1130.2.2).bind fun t1137 => (if t1137 = true then (some true) else (some false)))) else (some false))))))) = some r := H
  have A4 := Aside0.mk A40
  clear A40
  by_cases c5 : t1112 < 0
  · rw [if_pos c5] at H
    have c5b0 : decide (t1112 < 0) = true := decide_eq_true c5
    clear c5
    obtain rfl := Option.some.inj H
    go_enter Try.func7, Try.ntmps7
    go_wp2_with (first | ((with_reducible refine gate_dst (N := 3) rfl ?_); refine box_event ?hg (N := 3) ?hd (cs := #[.slice A0_0 l0_0.length c0_0, .slice A0_1 l0_1.length c0_1, .int .i64 a0_2]) (t := 78) ?hr ?_; (case hd => rfl); (case hg => rfl); (case hr => first | (go_simp; done) | (go_simp; rfl)); intro gb1111 hg w6 hbox hb; have n0_ := Aside0.mk (below_step (by repeat (first | (with_reducible first | exact HB.out | apply below_alloc | apply pw_below_drewN | apply below_drew1) | exact HB.out)) hb); have n1_ := Aside0.mk (hbox); have n2_ := Aside0.mk ((by rw [hg]; exact (below_size (by repeat (first | (with_reducible first | exact HB.out | apply below_alloc | apply pw_below_drewN | apply below_drew1) | exact HB.out))) : w.heap.size ≤ gb1111)); have n3_ := Aside0.mk ((by rw [hg]; exact (below_size (by repeat (first | (with_reducible first | exact HB.out | apply below_alloc | apply pw_below_drewN | apply below_drew1) | exact HB.out))) : w.heap.size ≤ gb1111)); clear HB; have HB := n0_; have BK1111 := n1_; have GW1111 := n2_; have GE1111 := n3_; clear n0_ n1_ n2_ n3_; clear hb hbox hg; have hcz7_0 : w6.cell? ⟨gb1111, 0, none⟩ = some (.slice A0_0 l0_0.length c0_0) := (blk_cell BK1111.out 0).trans rfl; have hcz7_1 : w6.cell? ⟨gb1111, 1, none⟩ = some (.slice A0_1 l0_1.length c0_1) := (blk_cell BK1111.out 1).trans rfl; have hcz7_2 : w6.cell? ⟨gb1111, 2, none⟩ = some (.int .i64 a0_2) := (blk_cell BK1111.out 2).trans rfl; have hfz7_0 := blk_frozen BK1111.out 0; have hfz7_1 := blk_frozen BK1111.out 1; have hfz7_2 := blk_frozen BK1111.out 2) | ((with_reducible refine gate_callee (f := 44) rfl ?_); refine goesL_ (some 13) rfl rfl Try.func44 (by kernel_rfl) rfl #[.agg #[.slice A0_0 l0_0.length c0_0, .slice A0_1 l0_1.length c0_1, .int .i64 a0_2], .int .i64 1048576] rfl (by (try simp only [List.map_toArray, List.map_cons, List.map_nil]); first | done | rfl | (simp only [List.length_drop, List.length_take]; rfl)) ?_; (with_reducible refine (laws_szStore.calls k _ _ l0_0 _ _ l0_1 a0_2 1048576 t1112 _ ?side1 ?side2 ?side3 ?side4 A4.out).mono ?_); (case side1 => repeat (first | exact (Kd.C_below HR0_0.out HB.out) | (with_reducible refine Kd.C_alloc ?_ _) | (with_reducible refine Kd.C_drewN ?_ _) | (with_reducible refine Kd.C_drew ?_))); (case side2 => exact HC0_0.out); (case side3 => repeat (first | exact (Kd.C_below HR0_1.out HB.out) | (with_reducible refine Kd.C_alloc ?_ _) | (with_reducible refine Kd.C_drewN ?_ _) | (with_reducible refine Kd.C_drew ?_))); (case side4 => exact HC0_1.out); rintro e w8 ⟨rfl, hb⟩; refine ⟨_, rfl, ?_⟩; have n0_ := Aside0.mk (blk_below (g := gb1111) (o := .cells #[.slice A0_0 l0_0.length c0_0, .slice A0_1 l0_1.length c0_1, .int .i64 a0_2] 78 (0, 0)) (by (with_reducible repeat (first | refine blk_drewN ?_ _ | refine blk_drew ?_ | refine blk_alloc ?_ _)); exact BK1111.out) hb); have n1_ := Aside0.mk (below_step (by repeat (first | (with_reducible first | exact HB.out | apply below_alloc | apply pw_below_drewN | apply below_drew1 | refine below_set ?_ GE1111.out) | exact HB.out)) hb); clear BK1111; clear HB; have BK1111 := n0_; have HB := n1_; clear n0_ n1_; (try clear hb); (try clear hb2); (try clear hk); (try clear hi)))
    go_ret
    exact ⟨by first | rfl | (simp [errW_none, errW_some] <;> rfl) | (simp [*, errW_none, errW_some] <;> rfl), by repeat (first | (with_reducible first | exact HB.out | apply below_alloc | apply pw_below_drewN | apply below_drew1 | refine below_set ?_ GE1111.out) | exact HB.out)⟩
  · rw [if_neg c5] at H
    have c5b0 : decide (t1112 < 0) = false := decide_eq_false c5
    clear c5
    replace H := Option.bind_eq_some_iff.mp H
    obtain ⟨⟨t1113, t1116, t1119⟩, A90, H⟩ := H
    replace H : ((spec_ChunkOf.f k t1113 t1116 t1119 a1 a2).bind fun t1120 => ((laws_toStore.f k l0_0 l0_1 a0_2).bind fun bt1121 => ((impl_ChunkOf.f k bt1121.1 bt1121.2.1 bt1121.2.2 a1 a2).bind fun t1129 => (if t1129 = t1120 then ((laws_toStore.f k l0_0 l0_1 a0_2).bind fun bt1130 => ((laws_eqStore.f k bt1121.1 bt1121.2.1 bt1121.2.2 bt1130.1 bt1130.2.1 bt1130.2.2).bind fun t1137 => (if t1137 = true then (some true) else (some false)))) else (some false))))) = some r := H
    have A9 := Aside0.mk A90
    clear A90
    replace H := Option.bind_eq_some_iff.mp H
    obtain ⟨t1120, A100, H⟩ := H
    replace H : ((laws_toStore.f k l0_0 l0_1 a0_2).bind fun bt1121 => ((impl_ChunkOf.f k bt1121.1 bt1121.2.1 bt1121.2.2 a1 a2).bind fun t1129 => (if t1129 = t1120 then ((laws_toStore.f k l0_0 l0_1 a0_2).bind fun bt1130 => ((laws_eqStore.f k bt1121.1 bt1121.2.1 bt1121.2.2 bt1130.1 bt1130.2.1 bt1130.2.2).bind fun t1137 => (if t1137 = true then (some true) else (some false)))) else (some false)))) = some r := H
    have A10 := Aside0.mk A100
    clear A100
    replace H := Option.bind_eq_some_iff.mp H
    obtain ⟨⟨t1121, t1124, t1127⟩, A110, H⟩ := H
    replace H : ((impl_ChunkOf.f k t1121 t1124 t1127 a1 a2).bind fun t1129 => (if t1129 = t1120 then ((laws_toStore.f k l0_0 l0_1 a0_2).bind fun bt1130 => ((laws_eqStore.f k t1121 t1124 t1127 bt1130.1 bt1130.2.1 bt1130.2.2).bind fun t1137 => (if t1137 = true then (some true) else (some false)))) else (some false))) = some r := H
    have A11 := Aside0.mk A110
    clear A110
    replace H := Option.bind_eq_some_iff.mp H
    obtain ⟨t1129, A120, H⟩ := H
    replace H : (if t1129 = t1120 then ((laws_toStore.f k l0_0 l0_1 a0_2).bind fun bt1130 => ((laws_eqStore.f k t1121 t1124 t1127 bt1130.1 bt1130.2.1 bt1130.2.2).bind fun t1137 => (if t1137 = true then (some true) else (some false)))) else (some false)) = some r := H
    have A12 := Aside0.mk A120
    clear A120
    by_cases c13 : t1129 = t1120
    · rw [if_pos c13] at H
      have c13b0 : (t1129 == t1120) = true := beq_iff_eq.mpr c13
      have c13b1 : (t1129 != t1120) = false := bne_eq_false_iff_eq.mpr c13
      clear c13
      replace H := Option.bind_eq_some_iff.mp H
      obtain ⟨⟨t1130, t1133, t1136⟩, A140, H⟩ := H
      replace H : ((laws_eqStore.f k t1121 t1124 t1127 t1130 t1133 t1136).bind fun t1137 => (if t1137 = true then (some true) else (some false))) = some r := H
      have A14 := Aside0.mk A140
      clear A140
      replace H := Option.bind_eq_some_iff.mp H
      obtain ⟨t1137, A150, H⟩ := H
      replace H : (if t1137 = true then (some true) else (some false)) = some r := H
      have A15 := Aside0.mk A150
      clear A150
      by_cases c16 : t1137 = true
      · subst c16
        have H1 : (some true) = some r := by rw [if_pos rfl] at H; exact H
        clear H
        have H := H1
        clear H1
        obtain rfl := Option.some.inj H
        go_enter Try.func7, Try.ntmps7
        try go_wp2_with (first | ((with_reducible refine gate_dst (N := 3) rfl ?_); refine box_event ?hg (N := 3) ?hd (cs := #[.slice A0_0 l0_0.length c0_0, .slice A0_1 l0_1.length c0_1, .int .i64 a0_2]) (t := 78) ?hr ?_; (case hd => rfl); (case hg => rfl); (case hr => first | (go_simp; done) | (go_simp; rfl)); intro gb1111 hg w17 hbox hb; have n0_ := Aside0.mk (below_step (by repeat (first | (with_reducible first | exact HB.out | apply below_alloc | apply pw_below_drewN | apply below_drew1) | exact HB.out)) hb); have n1_ := Aside0.mk (hbox); have n2_ := Aside0.mk ((by rw [hg]; exact (below_size (by repeat (first | (with_reducible first | exact HB.out | apply below_alloc | apply pw_below_drewN | apply below_drew1) | exact HB.out))) : w.heap.size ≤ gb1111)); have n3_ := Aside0.mk ((by rw [hg]; exact (below_size (by repeat (first | (with_reducible first | exact HB.out | apply below_alloc | apply pw_below_drewN | apply below_drew1) | exact HB.out))) : w.heap.size ≤ gb1111)); clear HB; have HB := n0_; have BK1111 := n1_; have GW1111 := n2_; have GE1111 := n3_; clear n0_ n1_ n2_ n3_; clear hb hbox hg; have hcz18_0 : w17.cell? ⟨gb1111, 0, none⟩ = some (.slice A0_0 l0_0.length c0_0) := (blk_cell BK1111.out 0).trans rfl; have hcz18_1 : w17.cell? ⟨gb1111, 1, none⟩ = some (.slice A0_1 l0_1.length c0_1) := (blk_cell BK1111.out 1).trans rfl; have hcz18_2 : w17.cell? ⟨gb1111, 2, none⟩ = some (.int .i64 a0_2) := (blk_cell BK1111.out 2).trans rfl; have hfz18_0 := blk_frozen BK1111.out 0; have hfz18_1 := blk_frozen BK1111.out 1; have hfz18_2 := blk_frozen BK1111.out 2) | ((with_reducible refine gate_callee (f := 44) rfl ?_); refine goesL_ (some 13) rfl rfl Try.func44 (by kernel_rfl) rfl #[.agg #[.slice A0_0 l0_0.length c0_0, .slice A0_1 l0_1.length c0_1, .int .i64 a0_2], .int .i64 1048576] rfl (by (try simp only [List.map_toArray, List.map_cons, List.map_nil]); first | done | rfl | (simp only [List.length_drop, List.length_take]; rfl)) ?_; (with_reducible refine (laws_szStore.calls k _ _ l0_0 _ _ l0_1 a0_2 1048576 t1112 _ ?side1 ?side2 ?side3 ?side4 A4.out).mono ?_); (case side1 => repeat (first | exact (Kd.C_below HR0_0.out HB.out) | (with_reducible refine Kd.C_alloc ?_ _) | (with_reducible refine Kd.C_drewN ?_ _) | (with_reducible refine Kd.C_drew ?_))); (case side2 => exact HC0_0.out); (case side3 => repeat (first | exact (Kd.C_below HR0_1.out HB.out) | (with_reducible refine Kd.C_alloc ?_ _) | (with_reducible refine Kd.C_drewN ?_ _) | (with_reducible refine Kd.C_drew ?_))); (case side4 => exact HC0_1.out); rintro e w19 ⟨rfl, hb⟩; refine ⟨_, rfl, ?_⟩; have n0_ := Aside0.mk (blk_below (g := gb1111) (o := .cells #[.slice A0_0 l0_0.length c0_0, .slice A0_1 l0_1.length c0_1, .int .i64 a0_2] 78 (0, 0)) (by (with_reducible repeat (first | refine blk_drewN ?_ _ | refine blk_drew ?_ | refine blk_alloc ?_ _)); exact BK1111.out) hb); have n1_ := Aside0.mk (below_step (by repeat (first | (with_reducible first | exact HB.out | apply below_alloc | apply pw_below_drewN | apply below_drew1 | refine below_set ?_ GE1111.out) | exact HB.out)) hb); clear BK1111; clear HB; have BK1111 := n0_; have HB := n1_; clear n0_ n1_; (try clear hb); (try clear hb2); (try clear hk); (try clear hi); have hcz20_0 : w19.cell? ⟨gb1111, 0, none⟩ = some (.slice A0_0 l0_0.length c0_0) := (blk_cell BK1111.out 0).trans rfl; have hcz20_1 : w19.cell? ⟨gb1111, 1, none⟩ = some (.slice A0_1 l0_1.length c0_1) := (blk_cell BK1111.out 1).trans rfl; have hcz20_2 : w19.cell? ⟨gb1111, 2, none⟩ = some (.int .i64 a0_2) := (blk_cell BK1111.out 2).trans rfl; have hfz20_0 := blk_frozen BK1111.out 0; have hfz20_1 := blk_frozen BK1111.out 1; have hfz20_2 := blk_frozen BK1111.out 2) | ((with_reducible refine gate_callee (f := 46) rfl ?_); refine goesL_ (some 17) rfl rfl Try.func46 (by kernel_rfl) rfl #[.agg #[.slice A0_0 l0_0.length c0_0, .slice A0_1 l0_1.length c0_1, .int .i64 a0_2]] rfl (by (try simp only [List.map_toArray, List.map_cons, List.map_nil]); first | done | rfl | (simp only [List.length_drop, List.length_take]; rfl)) ?_; (with_reducible refine (laws_toStore.calls k _ _ l0_0 _ _ l0_1 a0_2 t1113 t1116 t1119 _ ?side1 ?side2 ?side3 ?side4 A9.out).mono ?_); (case side1 => repeat (first | exact (Kd.C_below HR0_0.out HB.out) | (with_reducible refine Kd.C_alloc ?_ _) | (with_reducible refine Kd.C_drewN ?_ _) | (with_reducible refine Kd.C_drew ?_))); (case side2 => exact HC0_0.out); (case side3 => repeat (first | exact (Kd.C_below HR0_1.out HB.out) | (with_reducible refine Kd.C_alloc ?_ _) | (with_reducible refine Kd.C_drewN ?_ _) | (with_reducible refine Kd.C_drew ?_))); (case side4 => exact HC0_1.out); rintro e w21 ⟨v1114, v1117, rfl, ho0, ho1, hb⟩; refine ⟨_, rfl, ?_⟩; have n0_ := Aside0.mk (Kd.R_lower ho0 (below_size (by repeat (first | (with_reducible first | exact HB.out | apply below_alloc | apply pw_below_drewN | apply below_drew1 | refine below_set ?_ GE1111.out) | exact HB.out)))); have n1_ := Aside0.mk (Kd.S_lower ho1 (below_size (by repeat (first | (with_reducible first | exact HB.out | apply below_alloc | apply pw_below_drewN | apply below_drew1 | refine below_set ?_ GE1111.out) | exact HB.out)))); have n2_ := Aside0.mk (blk_below (g := gb1111) (o := .cells #[.slice A0_0 l0_0.length c0_0, .slice A0_1 l0_1.length c0_1, .int .i64 a0_2] 78 (0, 0)) (by (with_reducible repeat (first | refine blk_drewN ?_ _ | refine blk_drew ?_ | refine blk_alloc ?_ _)); exact BK1111.out) hb); have n3_ := Aside0.mk (below_step (by repeat (first | (with_reducible first | exact HB.out | apply below_alloc | apply pw_below_drewN | apply below_drew1 | refine below_set ?_ GE1111.out) | exact HB.out)) hb); clear BK1111; clear HB; have HO1115 := n0_; have HO1118 := n1_; have BK1111 := n2_; have HB := n3_; clear n0_ n1_ n2_ n3_; (try clear hb); (try clear hb2); (try clear hk); (try clear hi); (try clear ho0); (try clear ho1); obtain ⟨Ao22, co22, eo22⟩ := Kd.R_slice HO1115.out; subst eo22; obtain ⟨Ao23, co23, eo23⟩ := Kd.S_slice HO1118.out; subst eo23) | ((with_reducible refine gate_callee (f := 45) rfl ?_); refine goesL_ (some 20) rfl rfl Try.func45 (by kernel_rfl) rfl #[.agg #[.slice Ao22 t1113.length co22, .slice Ao23 t1116.length co23, .int .i64 t1119], .int .i64 a1, .int .i64 a2] rfl (by (try simp only [List.map_toArray, List.map_cons, List.map_nil]); first | done | rfl | (simp only [List.length_drop, List.length_take]; rfl)) ?_; (with_reducible refine (spec_ChunkOf.calls k _ _ t1113 _ _ t1116 t1119 a1 a2 t1120 _ ?side1 ?side2 ?side3 ?side4 A10.out).mono ?_); (case side1 => repeat (first | exact (Kd.R_reads' HO1115.out).2.2 | (with_reducible refine Kd.C_alloc ?_ _) | (with_reducible refine Kd.C_drewN ?_ _) | (with_reducible refine Kd.C_drew ?_))); (case side2 => exact (Kd.R_reads' HO1115.out).2.1); (case side3 => repeat (first | exact (Kd.S_reads' HO1118.out).2.2 | (with_reducible refine Kd.C_alloc ?_ _) | (with_reducible refine Kd.C_drewN ?_ _) | (with_reducible refine Kd.C_drew ?_))); (case side4 => exact (Kd.S_reads' HO1118.out).2.1); rintro e w24 ⟨rfl, hb⟩; refine ⟨_, rfl, ?_⟩; have n0_ := Aside0.mk (Kd.R_below (by (with_reducible repeat (first | apply Kd.R_alloc | apply Kd.R_drewN | apply Kd.R_drew)); exact HO1115.out) hb); have n1_ := Aside0.mk (Kd.S_below (by (with_reducible repeat (first | apply Kd.S_alloc | apply Kd.S_drewN | apply Kd.S_drew)); exact HO1118.out) hb); have n2_ := Aside0.mk (blk_below (g := gb1111) (o := .cells #[.slice A0_0 l0_0.length c0_0, .slice A0_1 l0_1.length c0_1, .int .i64 a0_2] 78 (0, 0)) (by (with_reducible repeat (first | refine blk_drewN ?_ _ | refine blk_drew ?_ | refine blk_alloc ?_ _)); exact BK1111.out) hb); have n3_ := Aside0.mk (below_step (by repeat (first | (with_reducible first | exact HB.out | apply below_alloc | apply pw_below_drewN | apply below_drew1 | refine below_set ?_ GE1111.out) | exact HB.out)) hb); clear HO1115; clear HO1118; clear BK1111; clear HB; have HO1115 := n0_; have HO1118 := n1_; have BK1111 := n2_; have HB := n3_; clear n0_ n1_ n2_ n3_; (try clear hb); (try clear hb2); (try clear hk); (try clear hi); have hcz25_0 : w24.cell? ⟨gb1111, 0, none⟩ = some (.slice A0_0 l0_0.length c0_0) := (blk_cell BK1111.out 0).trans rfl; have hcz25_1 : w24.cell? ⟨gb1111, 1, none⟩ = some (.slice A0_1 l0_1.length c0_1) := (blk_cell BK1111.out 1).trans rfl; have hcz25_2 : w24.cell? ⟨gb1111, 2, none⟩ = some (.int .i64 a0_2) := (blk_cell BK1111.out 2).trans rfl; have hfz25_0 := blk_frozen BK1111.out 0; have hfz25_1 := blk_frozen BK1111.out 1; have hfz25_2 := blk_frozen BK1111.out 2) | ((with_reducible refine gate_callee (f := 46) rfl ?_); refine goesL_ (some 22) rfl rfl Try.func46 (by kernel_rfl) rfl #[.agg #[.slice A0_0 l0_0.length c0_0, .slice A0_1 l0_1.length c0_1, .int .i64 a0_2]] rfl (by (try simp only [List.map_toArray, List.map_cons, List.map_nil]); first | done | rfl | (simp only [List.length_drop, List.length_take]; rfl)) ?_; (with_reducible refine (laws_toStore.calls k _ _ l0_0 _ _ l0_1 a0_2 t1121 t1124 t1127 _ ?side1 ?side2 ?side3 ?side4 A11.out).mono ?_); (case side1 => repeat (first | exact (Kd.C_below HR0_0.out HB.out) | (with_reducible refine Kd.C_alloc ?_ _) | (with_reducible refine Kd.C_drewN ?_ _) | (with_reducible refine Kd.C_drew ?_))); (case side2 => exact HC0_0.out); (case side3 => repeat (first | exact (Kd.C_below HR0_1.out HB.out) | (with_reducible refine Kd.C_alloc ?_ _) | (with_reducible refine Kd.C_drewN ?_ _) | (with_reducible refine Kd.C_drew ?_))); (case side4 => exact HC0_1.out); rintro e w26 ⟨v1122, v1125, rfl, ho0, ho1, hb⟩; refine ⟨_, rfl, ?_⟩; have n0_ := Aside0.mk (Kd.R_elder' (by (with_reducible repeat (first | apply Kd.R_alloc | apply Kd.R_drewN | apply Kd.R_drew)); exact HO1115.out) (Kd.R_base ho0) hb); have n1_ := Aside0.mk (Kd.S_elder' (by (with_reducible repeat (first | apply Kd.S_alloc | apply Kd.S_drewN | apply Kd.S_drew)); exact HO1118.out) (Kd.S_base ho1) hb); have n2_ := Aside0.mk (Kd.R_lower (Kd.R_new' ho0 (Kd.R_lt (by (with_reducible repeat (first | apply Kd.R_alloc | apply Kd.R_drewN | apply Kd.R_drew)); exact HO1115.out))) (below_size (by repeat (first | (with_reducible first | exact HB.out | apply below_alloc | apply pw_below_drewN | apply below_drew1 | refine below_set ?_ GE1111.out) | exact HB.out)))); have n3_ := Aside0.mk (Kd.S_lower (Kd.S_new' ho1 (Kd.S_lt (by (with_reducible repeat (first | apply Kd.S_alloc | apply Kd.S_drewN | apply Kd.S_drew)); exact HO1118.out))) (below_size (by repeat (first | (with_reducible first | exact HB.out | apply below_alloc | apply pw_below_drewN | apply below_drew1 | refine below_set ?_ GE1111.out) | exact HB.out)))); have n4_ := Aside0.mk (blk_below (g := gb1111) (o := .cells #[.slice A0_0 l0_0.length c0_0, .slice A0_1 l0_1.length c0_1, .int .i64 a0_2] 78 (0, 0)) (by (with_reducible repeat (first | refine blk_drewN ?_ _ | refine blk_drew ?_ | refine blk_alloc ?_ _)); exact BK1111.out) hb); have n5_ := Aside0.mk (below_step (by repeat (first | (with_reducible first | exact HB.out | apply below_alloc | apply pw_below_drewN | apply below_drew1 | refine below_set ?_ GE1111.out) | exact HB.out)) hb); clear HO1115; clear HO1118; clear BK1111; clear HB; have HO1115 := n0_; have HO1118 := n1_; have HO1123 := n2_; have HO1126 := n3_; have BK1111 := n4_; have HB := n5_; clear n0_ n1_ n2_ n3_ n4_ n5_; (try clear hb); (try clear hb2); (try clear hk); (try clear hi); (try clear ho0); (try clear ho1)) | ((with_reducible refine gate_dst (N := 9) rfl ?_); refine box_event ?hg (N := 9) ?hd (cs := #[.slice none 0 0, .slice none 0 0, .int .i64 0]) (t := 83) ?hr ?_; (case hd => rfl); (case hg => rfl); (case hr => first | (go_simp; done) | (go_simp; rfl)); intro gb1128 hg w27 hbox hb; have n0_ := Aside0.mk (Kd.R_below (by (with_reducible repeat (first | apply Kd.R_alloc | apply Kd.R_drewN | apply Kd.R_drew)); exact HO1115.out) hb); have n1_ := Aside0.mk (Kd.S_below (by (with_reducible repeat (first | apply Kd.S_alloc | apply Kd.S_drewN | apply Kd.S_drew)); exact HO1118.out) hb); have n2_ := Aside0.mk (Kd.R_below (by (with_reducible repeat (first | apply Kd.R_alloc | apply Kd.R_drewN | apply Kd.R_drew)); exact HO1123.out) hb); have n3_ := Aside0.mk (Kd.S_below (by (with_reducible repeat (first | apply Kd.S_alloc | apply Kd.S_drewN | apply Kd.S_drew)); exact HO1126.out) hb); have n4_ := Aside0.mk (blk_below (g := gb1111) (o := .cells #[.slice A0_0 l0_0.length c0_0, .slice A0_1 l0_1.length c0_1, .int .i64 a0_2] 78 (0, 0)) (by (with_reducible repeat (first | refine blk_drewN ?_ _ | refine blk_drew ?_ | refine blk_alloc ?_ _)); exact BK1111.out) hb); have n5_ := Aside0.mk (below_step (by repeat (first | (with_reducible first | exact HB.out | apply below_alloc | apply pw_below_drewN | apply below_drew1 | refine below_set ?_ GE1111.out) | exact HB.out)) hb); have n6_ := Aside0.mk (hbox); have n7_ := Aside0.mk ((by rw [hg]; exact (below_size (by repeat (first | (with_reducible first | exact HB.out | apply below_alloc | apply pw_below_drewN | apply below_drew1 | refine below_set ?_ GE1111.out) | exact HB.out))) : w.heap.size ≤ gb1128)); have n8_ := Aside0.mk ((by rw [hg]; exact (below_size (by repeat (first | (with_reducible first | exact HB.out | apply below_alloc | apply pw_below_drewN | apply below_drew1 | refine below_set ?_ GE1111.out) | exact HB.out))) : w.heap.size ≤ gb1128)); have n9_ := Aside0.mk ((by rw [hg]; exact Nat.ne_of_lt (blk_lt (g := gb1111) (o := .cells #[.slice A0_0 l0_0.length c0_0, .slice A0_1 l0_1.length c0_1, .int .i64 a0_2] 78 (0, 0)) (by (with_reducible repeat (first | refine blk_drewN ?_ _ | refine blk_drew ?_ | refine blk_alloc ?_ _)); exact BK1111.out)) : gb1111 ≠ gb1128)); have n10_ := Aside0.mk ((by rw [hg]; exact Nat.ne_of_gt (blk_lt (g := gb1111) (o := .cells #[.slice A0_0 l0_0.length c0_0, .slice A0_1 l0_1.length c0_1, .int .i64 a0_2] 78 (0, 0)) (by (with_reducible repeat (first | refine blk_drewN ?_ _ | refine blk_drew ?_ | refine blk_alloc ?_ _)); exact BK1111.out)) : gb1128 ≠ gb1111)); clear HO1115; clear HO1118; clear HO1123; clear HO1126; clear BK1111; clear HB; have HO1115 := n0_; have HO1118 := n1_; have HO1123 := n2_; have HO1126 := n3_; have BK1111 := n4_; have HB := n5_; have BK1128 := n6_; have GW1128 := n7_; have GE1128 := n8_; have NB1111_1128 := n9_; have NB1128_1111 := n10_; clear n0_ n1_ n2_ n3_ n4_ n5_ n6_ n7_ n8_ n9_ n10_; clear hb hbox hg; obtain ⟨Ao28, co28, eo28⟩ := Kd.R_slice HO1123.out; subst eo28; have hnb29 := NB1128_1111.out; have hnc29 := NB1111_1128.out; have hcz30_0 : w27.cell? ⟨gb1128, 0, none⟩ = some (.slice none 0 0) := (blk_cell BK1128.out 0).trans rfl; have hcz30_1 : w27.cell? ⟨gb1128, 1, none⟩ = some (.slice none 0 0) := (blk_cell BK1128.out 1).trans rfl; have hcz30_2 : w27.cell? ⟨gb1128, 2, none⟩ = some (.int .i64 0) := (blk_cell BK1128.out 2).trans rfl; have hfz30_0 := blk_frozen BK1128.out 0; have hfz30_1 := blk_frozen BK1128.out 1; have hfz30_2 := blk_frozen BK1128.out 2; obtain ⟨Ao31, co31, eo31⟩ := Kd.S_slice HO1126.out; subst eo31) | ((with_reducible refine gate_callee (f := 47) rfl ?_); refine goesL_ (some 26) rfl rfl Try.func47 (by kernel_rfl) rfl #[.agg #[.slice Ao28 t1121.length co28, .slice Ao31 t1124.length co31, .int .i64 t1127], .int .i64 a1, .int .i64 a2] rfl (by (try simp only [List.map_toArray, List.map_cons, List.map_nil]); first | done | rfl | (simp only [List.length_drop, List.length_take]; rfl)) ?_; (with_reducible refine (impl_ChunkOf.calls k _ _ t1121 _ _ t1124 t1127 a1 a2 t1129 _ ?side1 ?side2 ?side3 ?side4 A12.out).mono ?_); (case side1 => refine (Kd.R_reads' (e := 147) (base := w.heap.size) (ok := fun k_ => (True ∧ some k_ ≠ (.slice Ao22 t1113.length co22 : Value).ownBlock)) (n := t1121.length) (c := co28) ?_).2.2; exact (by (with_reducible repeat (first | apply Kd.R_alloc | apply Kd.R_drewN | apply Kd.R_drew)); exact (Kd.R_mono (Kd.R_far (p := ⟨gb1128, 2, none⟩) (Kd.R_far (p := ⟨gb1128, 1, none⟩) (Kd.R_far (p := ⟨gb1128, 0, none⟩) (Kd.R_types HO1123.out BK1128.out (by decide)) (fun _ hk => hk.2) (.slice Ao28 t1121.length co28)) (fun _ hk => hk.2) (.slice Ao31 t1124.length co31)) (fun _ hk => hk.2) (.int .i64 t1127)) (fun _ h_ => h_.1)))); (case side2 => exact (Kd.R_reads' HO1123.out).2.1); (case side3 => refine (Kd.S_reads' (e := 133) (base := w.heap.size) (ok := fun k_ => (True ∧ some k_ ≠ (.slice Ao23 t1116.length co23 : Value).ownBlock)) (n := t1124.length) (c := co31) ?_).2.2; exact (by (with_reducible repeat (first | apply Kd.S_alloc | apply Kd.S_drewN | apply Kd.S_drew)); exact (Kd.S_mono (Kd.S_far (p := ⟨gb1128, 2, none⟩) (Kd.S_far (p := ⟨gb1128, 1, none⟩) (Kd.S_far (p := ⟨gb1128, 0, none⟩) (Kd.S_types HO1126.out BK1128.out (by decide)) (fun _ hk => hk.2) (.slice Ao28 t1121.length co28)) (fun _ hk => hk.2) (.slice Ao31 t1124.length co31)) (fun _ hk => hk.2) (.int .i64 t1127)) (fun _ h_ => h_.1)))); (case side4 => exact (Kd.S_reads' HO1126.out).2.1); rintro e w32 ⟨rfl, hb⟩; refine ⟨_, rfl, ?_⟩; have n0_ := Aside0.mk (Kd.R_below (by (with_reducible repeat (first | apply Kd.R_alloc | apply Kd.R_drewN | apply Kd.R_drew)); exact (Kd.R_mono (Kd.R_far (p := ⟨gb1128, 2, none⟩) (Kd.R_far (p := ⟨gb1128, 1, none⟩) (Kd.R_far (p := ⟨gb1128, 0, none⟩) (Kd.R_types HO1115.out BK1128.out (by decide)) (fun _ hk => hk.2) (.slice Ao28 t1121.length co28)) (fun _ hk => hk.2) (.slice Ao31 t1124.length co31)) (fun _ hk => hk.2) (.int .i64 t1127)) (fun _ h_ => h_.1))) hb); have n1_ := Aside0.mk (Kd.S_below (by (with_reducible repeat (first | apply Kd.S_alloc | apply Kd.S_drewN | apply Kd.S_drew)); exact (Kd.S_mono (Kd.S_far (p := ⟨gb1128, 2, none⟩) (Kd.S_far (p := ⟨gb1128, 1, none⟩) (Kd.S_far (p := ⟨gb1128, 0, none⟩) (Kd.S_types HO1118.out BK1128.out (by decide)) (fun _ hk => hk.2) (.slice Ao28 t1121.length co28)) (fun _ hk => hk.2) (.slice Ao31 t1124.length co31)) (fun _ hk => hk.2) (.int .i64 t1127)) (fun _ h_ => h_.1))) hb); have n2_ := Aside0.mk (Kd.R_below (by (with_reducible repeat (first | apply Kd.R_alloc | apply Kd.R_drewN | apply Kd.R_drew)); exact (Kd.R_mono (Kd.R_far (p := ⟨gb1128, 2, none⟩) (Kd.R_far (p := ⟨gb1128, 1, none⟩) (Kd.R_far (p := ⟨gb1128, 0, none⟩) (Kd.R_types HO1123.out BK1128.out (by decide)) (fun _ hk => hk.2) (.slice Ao28 t1121.length co28)) (fun _ hk => hk.2) (.slice Ao31 t1124.length co31)) (fun _ hk => hk.2) (.int .i64 t1127)) (fun _ h_ => h_.1))) hb); have n3_ := Aside0.mk (Kd.S_below (by (with_reducible repeat (first | apply Kd.S_alloc | apply Kd.S_drewN | apply Kd.S_drew)); exact (Kd.S_mono (Kd.S_far (p := ⟨gb1128, 2, none⟩) (Kd.S_far (p := ⟨gb1128, 1, none⟩) (Kd.S_far (p := ⟨gb1128, 0, none⟩) (Kd.S_types HO1126.out BK1128.out (by decide)) (fun _ hk => hk.2) (.slice Ao28 t1121.length co28)) (fun _ hk => hk.2) (.slice Ao31 t1124.length co31)) (fun _ hk => hk.2) (.int .i64 t1127)) (fun _ h_ => h_.1))) hb); have n4_ := Aside0.mk (blk_below (g := gb1111) (o := .cells #[.slice A0_0 l0_0.length c0_0, .slice A0_1 l0_1.length c0_1, .int .i64 a0_2] 78 (0, 0)) (by (with_reducible repeat (first | refine blk_drewN ?_ _ | refine blk_drew ?_ | refine blk_alloc ?_ _)); refine blk_far ?_ NB1111_1128.out _; (with_reducible repeat (first | refine blk_drewN ?_ _ | refine blk_drew ?_ | refine blk_alloc ?_ _)); refine blk_far ?_ NB1111_1128.out _; (with_reducible repeat (first | refine blk_drewN ?_ _ | refine blk_drew ?_ | refine blk_alloc ?_ _)); refine blk_far ?_ NB1111_1128.out _; (with_reducible repeat (first | refine blk_drewN ?_ _ | refine blk_drew ?_ | refine blk_alloc ?_ _)); exact BK1111.out) hb); have n5_ := Aside0.mk (blk_below (g := gb1128) (o := .cells #[.slice Ao28 t1121.length co28, .slice Ao31 t1124.length co31, .int .i64 t1127] 83 (0, 0)) (by (with_reducible repeat (first | refine blk_drewN ?_ _ | refine blk_drew ?_ | refine blk_alloc ?_ _)); refine blk_put (cs := #[.slice Ao28 t1121.length co28, .slice Ao31 t1124.length co31, .int .i64 0]) ?_ 2 _ rfl; (with_reducible repeat (first | refine blk_drewN ?_ _ | refine blk_drew ?_ | refine blk_alloc ?_ _)); refine blk_put (cs := #[.slice Ao28 t1121.length co28, .slice none 0 0, .int .i64 0]) ?_ 1 _ rfl; (with_reducible repeat (first | refine blk_drewN ?_ _ | refine blk_drew ?_ | refine blk_alloc ?_ _)); refine blk_put (cs := #[.slice none 0 0, .slice none 0 0, .int .i64 0]) ?_ 0 _ rfl; (with_reducible repeat (first | refine blk_drewN ?_ _ | refine blk_drew ?_ | refine blk_alloc ?_ _)); exact BK1128.out) hb); have n6_ := Aside0.mk (below_step (by repeat (first | (with_reducible first | exact HB.out | apply below_alloc | apply pw_below_drewN | apply below_drew1 | refine below_set ?_ GE1111.out | refine below_set ?_ GE1128.out) | exact HB.out)) hb); clear HO1115; clear HO1118; clear HO1123; clear HO1126; clear BK1111; clear BK1128; clear HB; have HO1115 := n0_; have HO1118 := n1_; have HO1123 := n2_; have HO1126 := n3_; have BK1111 := n4_; have BK1128 := n5_; have HB := n6_; clear n0_ n1_ n2_ n3_ n4_ n5_ n6_; (try clear hb); (try clear hb2); (try clear hk); (try clear hi)))
        have n0_ := Aside0.mk (Kd.R_drew HO1115.out)
        have n1_ := Aside0.mk (Kd.S_drew HO1118.out)
        have n2_ := Aside0.mk (Kd.R_drew HO1123.out)
        have n3_ := Aside0.mk (Kd.S_drew HO1126.out)
        have n4_ := Aside0.mk (blk_drew BK1111.out)
        have n5_ := Aside0.mk (blk_drew BK1128.out)
        have n6_ := Aside0.mk (below_drew1 HB.out)
        clear HO1115
        clear HO1118
        clear HO1123
        clear HO1126
        clear BK1111
        clear BK1128
        clear HB
        have HO1115 := n0_
        have HO1118 := n1_
        have HO1123 := n2_
        have HO1126 := n3_
        have BK1111 := n4_
        have BK1128 := n5_
        have HB := n6_
        clear n0_ n1_ n2_ n3_ n4_ n5_ n6_
        refine start_ (n := 5) (S := fun w' => w'.cell? ⟨gb1128, 0, none⟩ = some (.slice Ao28 t1121.length co28) ∧ w'.cell? ⟨gb1128, 1, none⟩ = some (.slice Ao31 t1124.length co31) ∧ w'.cell? ⟨gb1128, 2, none⟩ = some (.int .i64 t1127) ∧ w'.cell? ⟨gb1111, 0, none⟩ = some (.slice A0_0 l0_0.length c0_0) ∧ w'.cell? ⟨gb1111, 1, none⟩ = some (.slice A0_1 l0_1.length c0_1) ∧ w'.cell? ⟨gb1111, 2, none⟩ = some (.int .i64 a0_2)) (ds := []) #[false, false, false, false, false] (by kernel_rfl) rfl rfl ⟨(blk_cell BK1128.out 0).trans rfl, (blk_cell BK1128.out 1).trans rfl, (blk_cell BK1128.out 2).trans rfl, (blk_cell BK1111.out 0).trans rfl, (blk_cell BK1111.out 1).trans rfl, (blk_cell BK1111.out 2).trans rfl⟩ (fun hHeld => ?_)
        generalize w32.drew = w33 at HO1115 HO1118 HO1123 HO1126 BK1111 BK1128 HB hHeld ⊢
        refine take_ (i := 0) (N := some 30) (v := ?_) (a' := ?_) #[true, false, false, false, false] rfl rfl (by kernel_rfl) (fun _ _ _ h => h) (Or.inl ⟨by rfl, ?_⟩) hHeld ?_ ?_
        rotate_left
        · rintro w' ⟨s0, s1, s2, s3, s4, s5⟩
          go_simp
          with_reducible rfl
        rotate_left
        · simp only [Act.put, List.setIfInBounds_toArray, List.set_cons_zero, List.set_cons_succ, i64_w, i32_w]
          rfl
        refine take_ (i := 1) (N := some 31) (v := ?_) (a' := ?_) #[true, true, false, false, false] rfl rfl (by kernel_rfl) (fun _ _ _ h => h) (Or.inl ⟨by rfl, ?_⟩) hHeld ?_ ?_
        rotate_left
        · rintro w' ⟨s0, s1, s2, s3, s4, s5⟩
          go_simp
          with_reducible rfl
        rotate_left
        · simp only [Act.put, List.setIfInBounds_toArray, List.set_cons_zero, List.set_cons_succ, i64_w, i32_w]
          rfl
        refine one_ (i := 2) (N := some 32) #[true, true, true, false, false] rfl rfl (by kernel_rfl) (by decide) (fun K hK => ?_)
        refine goes_ Try.func46 (by kernel_rfl) rfl #[.agg #[.slice A0_0 l0_0.length c0_0, .slice A0_1 l0_1.length c0_1, .int .i64 a0_2]] (by rfl) rfl rfl (by (try simp only [List.map_toArray, List.map_cons, List.map_nil]); first | done | rfl | (simp only [List.length_drop, List.length_take]; rfl)) ?_
        with_reducible refine (laws_toStore.calls k _ _ l0_0 _ _ l0_1 a0_2 t1130 t1133 t1136 _ ?side1 ?side2 ?side3 ?side4 A14.out).mono ?_
        (case side1 => repeat (first | exact (Kd.C_below HR0_0.out HB.out) | (with_reducible refine Kd.C_alloc ?_ _) | (with_reducible refine Kd.C_drewN ?_ _) | (with_reducible refine Kd.C_drew ?_)))
        (case side2 => exact HC0_0.out)
        (case side3 => repeat (first | exact (Kd.C_below HR0_1.out HB.out) | (with_reducible refine Kd.C_alloc ?_ _) | (with_reducible refine Kd.C_drewN ?_ _) | (with_reducible refine Kd.C_drew ?_)))
        (case side4 => exact HC0_1.out)
        rintro e w34 ⟨v1131, v1134, rfl, ho0, ho1, hb⟩
        refine ⟨_, rfl, ?_⟩
        have n0_ := Aside0.mk (Kd.R_elder' (by (with_reducible repeat (first | apply Kd.R_alloc | apply Kd.R_drewN | apply Kd.R_drew)); exact HO1115.out) (Kd.R_base ho0) hb)
        have n1_ := Aside0.mk (Kd.S_elder' (by (with_reducible repeat (first | apply Kd.S_alloc | apply Kd.S_drewN | apply Kd.S_drew)); exact HO1118.out) (Kd.S_base ho1) hb)
        have n2_ := Aside0.mk (Kd.R_elder' (by (with_reducible repeat (first | apply Kd.R_alloc | apply Kd.R_drewN | apply Kd.R_drew)); exact HO1123.out) (Kd.R_base ho0) hb)
        have n3_ := Aside0.mk (Kd.S_elder' (by (with_reducible repeat (first | apply Kd.S_alloc | apply Kd.S_drewN | apply Kd.S_drew)); exact HO1126.out) (Kd.S_base ho1) hb)
        have n4_ := Aside0.mk (Kd.R_lower (Kd.R_new' (Kd.R_new' ho0 (Kd.R_lt (by (with_reducible repeat (first | apply Kd.R_alloc | apply Kd.R_drewN | apply Kd.R_drew)); exact HO1115.out))) (Kd.R_lt (by (with_reducible repeat (first | apply Kd.R_alloc | apply Kd.R_drewN | apply Kd.R_drew)); exact HO1123.out))) (below_size (by repeat (first | (with_reducible first | exact HB.out | apply below_alloc | apply pw_below_drewN | apply below_drew1 | refine below_set ?_ GE1111.out | refine below_set ?_ GE1128.out) | exact HB.out))))
        have n5_ := Aside0.mk (Kd.S_lower (Kd.S_new' (Kd.S_new' ho1 (Kd.S_lt (by (with_reducible repeat (first | apply Kd.S_alloc | apply Kd.S_drewN | apply Kd.S_drew)); exact HO1118.out))) (Kd.S_lt (by (with_reducible repeat (first | apply Kd.S_alloc | apply Kd.S_drewN | apply Kd.S_drew)); exact HO1126.out))) (below_size (by repeat (first | (with_reducible first | exact HB.out | apply below_alloc | apply pw_below_drewN | apply below_drew1 | refine below_set ?_ GE1111.out | refine below_set ?_ GE1128.out) | exact HB.out))))
        have n6_ := Aside0.mk (blk_below (g := gb1111) (o := .cells #[.slice A0_0 l0_0.length c0_0, .slice A0_1 l0_1.length c0_1, .int .i64 a0_2] 78 (0, 0)) (by (with_reducible repeat (first | refine blk_drewN ?_ _ | refine blk_drew ?_ | refine blk_alloc ?_ _)); exact BK1111.out) hb)
        have n7_ := Aside0.mk (blk_below (g := gb1128) (o := .cells #[.slice Ao28 t1121.length co28, .slice Ao31 t1124.length co31, .int .i64 t1127] 83 (0, 0)) (by (with_reducible repeat (first | refine blk_drewN ?_ _ | refine blk_drew ?_ | refine blk_alloc ?_ _)); exact BK1128.out) hb)
        have n8_ := Aside0.mk (below_step (by repeat (first | (with_reducible first | exact HB.out | apply below_alloc | apply pw_below_drewN | apply below_drew1 | refine below_set ?_ GE1111.out | refine below_set ?_ GE1128.out) | exact HB.out)) hb)
        clear HO1115
        clear HO1118
        clear HO1123
        clear HO1126
        clear BK1111
        clear BK1128
        clear HB
        have HO1115 := n0_
        have HO1118 := n1_
        have HO1123 := n2_
        have HO1126 := n3_
        have HO1132 := n4_
        have HO1135 := n5_
        have BK1111 := n6_
        have BK1128 := n7_
        have HB := n8_
        clear n0_ n1_ n2_ n3_ n4_ n5_ n6_ n7_ n8_
        (try clear hb)
        (try clear hb2)
        (try clear hk)
        (try clear hi)
        (try clear ho0)
        (try clear ho1)
        obtain ⟨Ao35, co35, eo35⟩ := Kd.R_slice HO1132.out
        (first | subst eo35 | (injection eo35 with f1_ f2_ f3_; have f4_ := f1_.symm; have f5_ := f3_.symm; clear f1_ f2_ f3_; subst f4_; subst f5_))
        obtain ⟨Ao36, co36, eo36⟩ := Kd.S_slice HO1135.out
        (first | subst eo36 | (injection eo36 with f1_ f2_ f3_; have f4_ := f1_.symm; have f5_ := f3_.symm; clear f1_ f2_ f3_; subst f4_; subst f5_))
        refine hK.out _ _ ⟨(blk_cell BK1128.out 0).trans rfl, (blk_cell BK1128.out 1).trans rfl, (blk_cell BK1128.out 2).trans rfl, (blk_cell BK1111.out 0).trans rfl, (blk_cell BK1111.out 1).trans rfl, (blk_cell BK1111.out 2).trans rfl⟩ (fun hHeld => ?_)
        clear hK K
        refine norm_ (a' := ?_) ?_ ?_
        rotate_left
        · show Act.put _ (some 32) _ = _
          simp only [Act.put, List.setIfInBounds_toArray, List.set_cons_zero, List.set_cons_succ, i64_w, i32_w]
          rfl
        refine one_ (i := 3) (N := some 33) #[true, true, true, true, false] rfl rfl (by kernel_rfl) (by decide) (fun K hK => ?_)
        refine goes_ Try.func48 (by kernel_rfl) rfl #[.agg #[.slice Ao28 t1121.length co28, .slice Ao31 t1124.length co31, .int .i64 t1127], .agg #[.slice Ao35 t1130.length co35, .slice Ao36 t1133.length co36, .int .i64 t1136]] (by rfl) rfl rfl (by (try simp only [List.map_toArray, List.map_cons, List.map_nil]); first | done | rfl | (simp only [List.length_drop, List.length_take]; rfl)) ?_
        with_reducible refine (laws_eqStore.calls k _ _ t1121 _ _ t1124 t1127 _ _ t1130 _ _ t1133 t1136 true _ ?side1 ?side2 ?side3 ?side4 ?side5 ?side6 ?side7 ?side8 A15.out).mono ?_
        (case side1 => repeat (first | exact (Kd.R_reads' HO1123.out).2.2 | (with_reducible refine Kd.C_alloc ?_ _) | (with_reducible refine Kd.C_drewN ?_ _) | (with_reducible refine Kd.C_drew ?_)))
        (case side2 => exact (Kd.R_reads' HO1123.out).2.1)
        (case side3 => repeat (first | exact (Kd.S_reads' HO1126.out).2.2 | (with_reducible refine Kd.C_alloc ?_ _) | (with_reducible refine Kd.C_drewN ?_ _) | (with_reducible refine Kd.C_drew ?_)))
        (case side4 => exact (Kd.S_reads' HO1126.out).2.1)
        (case side5 => repeat (first | exact (Kd.R_reads' HO1132.out).2.2 | (with_reducible refine Kd.C_alloc ?_ _) | (with_reducible refine Kd.C_drewN ?_ _) | (with_reducible refine Kd.C_drew ?_)))
        (case side6 => exact (Kd.R_reads' HO1132.out).2.1)
        (case side7 => repeat (first | exact (Kd.S_reads' HO1135.out).2.2 | (with_reducible refine Kd.C_alloc ?_ _) | (with_reducible refine Kd.C_drewN ?_ _) | (with_reducible refine Kd.C_drew ?_)))
        (case side8 => exact (Kd.S_reads' HO1135.out).2.1)
        rintro e w37 ⟨rfl, hb⟩
        refine ⟨_, rfl, ?_⟩
        have n0_ := Aside0.mk (Kd.R_below (by (with_reducible repeat (first | apply Kd.R_alloc | apply Kd.R_drewN | apply Kd.R_drew)); exact HO1115.out) hb)
        have n1_ := Aside0.mk (Kd.S_below (by (with_reducible repeat (first | apply Kd.S_alloc | apply Kd.S_drewN | apply Kd.S_drew)); exact HO1118.out) hb)
        have n2_ := Aside0.mk (Kd.R_below (by (with_reducible repeat (first | apply Kd.R_alloc | apply Kd.R_drewN | apply Kd.R_drew)); exact HO1123.out) hb)
        have n3_ := Aside0.mk (Kd.S_below (by (with_reducible repeat (first | apply Kd.S_alloc | apply Kd.S_drewN | apply Kd.S_drew)); exact HO1126.out) hb)
        have n4_ := Aside0.mk (Kd.R_below (by (with_reducible repeat (first | apply Kd.R_alloc | apply Kd.R_drewN | apply Kd.R_drew)); exact HO1132.out) hb)
        have n5_ := Aside0.mk (Kd.S_below (by (with_reducible repeat (first | apply Kd.S_alloc | apply Kd.S_drewN | apply Kd.S_drew)); exact HO1135.out) hb)
        have n6_ := Aside0.mk (blk_below (g := gb1111) (o := .cells #[.slice A0_0 l0_0.length c0_0, .slice A0_1 l0_1.length c0_1, .int .i64 a0_2] 78 (0, 0)) (by (with_reducible repeat (first | refine blk_drewN ?_ _ | refine blk_drew ?_ | refine blk_alloc ?_ _)); exact BK1111.out) hb)
        have n7_ := Aside0.mk (blk_below (g := gb1128) (o := .cells #[.slice Ao28 t1121.length co28, .slice Ao31 t1124.length co31, .int .i64 t1127] 83 (0, 0)) (by (with_reducible repeat (first | refine blk_drewN ?_ _ | refine blk_drew ?_ | refine blk_alloc ?_ _)); exact BK1128.out) hb)
        have n8_ := Aside0.mk (below_step (by repeat (first | (with_reducible first | exact HB.out | apply below_alloc | apply pw_below_drewN | apply below_drew1 | refine below_set ?_ GE1111.out | refine below_set ?_ GE1128.out) | exact HB.out)) hb)
        clear HO1115
        clear HO1118
        clear HO1123
        clear HO1126
        clear HO1132
        clear HO1135
        clear BK1111
        clear BK1128
        clear HB
        have HO1115 := n0_
        have HO1118 := n1_
        have HO1123 := n2_
        have HO1126 := n3_
        have HO1132 := n4_
        have HO1135 := n5_
        have BK1111 := n6_
        have BK1128 := n7_
        have HB := n8_
        clear n0_ n1_ n2_ n3_ n4_ n5_ n6_ n7_ n8_
        (try clear hb)
        (try clear hb2)
        (try clear hk)
        (try clear hi)
        refine hK.out _ _ ⟨(blk_cell BK1128.out 0).trans rfl, (blk_cell BK1128.out 1).trans rfl, (blk_cell BK1128.out 2).trans rfl, (blk_cell BK1111.out 0).trans rfl, (blk_cell BK1111.out 1).trans rfl, (blk_cell BK1111.out 2).trans rfl⟩ (fun hHeld => ?_)
        clear hK K
        refine norm_ (a' := ?_) ?_ ?_
        rotate_left
        · show Act.put _ (some 33) _ = _
          simp only [Act.put, List.setIfInBounds_toArray, List.set_cons_zero, List.set_cons_succ, i64_w, i32_w]
          rfl
        refine pure_ (i := 4) (N := some 34) (v := ?_) (a' := ?_) #[true, true, true, true, true] rfl rfl (by kernel_rfl) (fun _ _ _ h => h) (Or.inl ⟨by rfl, ?_⟩) ?_ ?_
        rotate_left
        · intro w'
          go_simp
          with_reducible rfl
        rotate_left
        · simp only [Act.put, List.setIfInBounds_toArray, List.set_cons_zero, List.set_cons_succ, i64_w, i32_w]
          rfl
        refine done_ (by kernel_rfl) ?_
        try go_wp2
        go_ret
        exact ⟨by first | rfl | (simp [errW_none, errW_some] <;> rfl) | (simp [*, errW_none, errW_some] <;> rfl), by repeat (first | (with_reducible first | exact HB.out | apply below_alloc | apply pw_below_drewN | apply below_drew1 | refine below_set ?_ GE1111.out | refine below_set ?_ GE1128.out) | exact HB.out)⟩
      · replace c16 := Bool.eq_false_iff.mpr c16
        subst c16
        have H1 : (some false) = some r := by rw [if_neg (show ¬ (false = true) by decide)] at H; exact H
        clear H
        have H := H1
        clear H1
        exact absurd ((Option.some.inj H).trans hT.out) (by decide)
    · rw [if_neg c13] at H
      have c13b0 : (t1129 == t1120) = false := beq_eq_false_iff_ne.mpr c13
      have c13b1 : (t1129 != t1120) = true := bne_iff_ne.mpr c13
      exact absurd ((Option.some.inj H).trans hT.out) (by decide)

end Go.Proofs.Ytdolplcbokioaaa.PB

/- What a law's arguments, read as data, are as the print's kinds. -/
namespace Go.Proofs.Ytdolplcbokioaaa.Open
open Go.RowKit Go.Proofs.YtdolplcbokioaaaW.PrintWords

/-- A datum that is read at type t is of kind d, and each such y meets wf. -/
def Opn {α : Type} (P : Program) (t : TypeId) (d : Kd α) (wf : α → Prop) : Prop :=
  ∀ (H : Type) (enc : TypeId × Value → H) (w : World) (base : Nat) (spare : Nat → Bool) (held : Bool) (fuel : Nat) (cs : List Value) (x : DataW H × List MemPlace),
    DataW.trod enc P w base spare held fuel t cs = some x → ∃ y : α, d.K w y cs ∧ wf y

theorem opn_int {P : Program} {t : TypeId} {k : IntKind} (hu : P.underlying t = some (.int k)) : Opn P t (Kd.int k) (fun n => (Lit.int k n).wf = true) := by
  intro H enc w base spare held fuel cs x h
  obtain ⟨n, rfl, _, hw⟩ := DataW.trod_int hu h
  exact ⟨n, rfl, hw⟩
theorem opn_bool {P : Program} {t : TypeId} (hu : P.underlying t = some .bool) : Opn P t Kd.bool (fun _ => True) := by
  intro H enc w base spare held fuel cs x h
  obtain ⟨n, rfl, _⟩ := DataW.trod_bool hu h
  exact ⟨n, rfl, trivial⟩
theorem opn_string {P : Program} {t : TypeId} (hu : P.underlying t = some .string) : Opn P t Kd.string (fun s => s.size ≤ maxLen) := by
  intro H enc w base spare held fuel cs x h
  obtain ⟨n, rfl, _, hw⟩ := DataW.trod_string hu h
  exact ⟨n, rfl, hw⟩
theorem choose_list {α : Type} {Q : Nat → α → Prop} : ∀ (n : Nat), (∀ i, i < n → ∃ y, Q i y) → ∃ ys : List α, ys.length = n ∧ ∀ i y, ys[i]? = some y → Q i y
  | 0, _ => ⟨[], rfl, fun i y h => by simp at h⟩
  | n + 1, h => by
    obtain ⟨ys, hl, hq⟩ := choose_list n (fun i hi => h i (by omega))
    obtain ⟨y, hy⟩ := h n (by omega)
    refine ⟨ys ++ [y], by simp [hl], fun i z hz => ?_⟩
    rcases Nat.lt_or_ge i ys.length with hi | hi
    · rw [List.getElem?_append_left hi] at hz
      exact hq i z hz
    · rw [List.getElem?_append_right hi] at hz
      have hi2 : i - ys.length = 0 := by
        have := (List.getElem?_eq_some_iff.1 hz).1
        simp at this
        omega
      rw [hi2] at hz
      have : i = n := by omega
      subst this
      simp at hz
      subst hz
      exact hy
theorem adds (a : Addr) (m n : Nat) : (a.add m).add n = a.add (m + n) := by
  unfold Addr.add
  by_cases h1 : m = 0 <;> by_cases h2 : n = 0 <;> simp_all [Nat.add_assoc]
theorem opn_slice {α : Type} {P : Program} {t e : TypeId} {d : Kd α} {wf : α → Prop} (hu : P.underlying t = some (.slice e)) (hc : P.cellsOf e = d.sz) (ho : Opn P e d wf) :
    Opn P t (Kd.slice e d) (fun xs => xs.length ≤ maxLen ∧ ∀ x ∈ xs, wf x) := by
  intro H enc w base spare held fuel cs x h
  rcases DataW.trod_slice hu h with ⟨rfl, _⟩ | ⟨a, len, cap, elems, rest, n, _, rfl, _, hb, hl, hm, hlen, hel, _, _⟩
  · refine ⟨[], ⟨none, 0, rfl, Nat.le_refl _, rfl, by simp, fun h0 => absurd h0 (by simp)⟩, by simp, fun x hx => absurd hx (by simp)⟩
  · have each : ∀ i, i < len → ∃ y : α, ∃ c : List Value, (c.length = d.sz ∧ d.K w y c ∧ ∀ j u, c[j]? = some u → w.cell? (a.add (i * d.sz + j)) = some u) ∧ wf y := by
      intro i hi
      have h1 := hel i hi
      rw [List.getElem?_eq_getElem (by omega), Option.bind_eq_some_iff, hc] at h1
      obtain ⟨c, h2, h3⟩ := h1
      obtain ⟨_, hcl, hcell⟩ := World.cells?_some h2
      obtain ⟨y, hk, hw⟩ := ho H enc w base spare held n c _ h3
      refine ⟨y, c, ⟨hcl, hk, fun j u hj => ?_⟩, hw⟩
      have hjl : j < c.length := (List.getElem?_eq_some_iff.1 hj).1
      rw [← adds, hcell j (by omega), hj]
    obtain ⟨ys, hyl, hys⟩ := choose_list len each
    have hml : len ≤ maxLen := Nat.le_trans hl hm
    refine ⟨ys, ⟨some a, cap, by rw [hyl], by rw [hyl]; exact hl, rfl, by rw [hyl]; simpa only [maxLen] using hml, fun _ => ⟨a, rfl, fun j p hj => ?_⟩⟩, by rw [hyl]; exact hml, fun y hy => ?_⟩
    · obtain ⟨c, hq, _⟩ := hys j p hj
      exact ⟨c, hq⟩
    · obtain ⟨j, hj, he⟩ := List.getElem_of_mem hy
      obtain ⟨_, _, hw⟩ := hys j y (by rw [List.getElem?_eq_getElem hj, he])
      exact hw

/-- The fields fs, read off the cells from off on, are of kind d. -/
def OpnF {α : Type} (P : Program) (fs : List Field) (off : Nat) (d : Kd α) (wf : α → Prop) : Prop :=
  ∀ (H : Type) (enc : TypeId × Value → H) (w : World) (base : Nat) (spare : Nat → Bool) (held : Bool) (fuel : Nat) (cs : List Value), cs.length = off + d.sz →
    (∀ f ∈ fs, ∃ x, DataW.trod enc P w base spare held fuel f.type ((cs.drop f.offset).take (P.cellsOf f.type)) = some x) → ∃ y : α, d.K w y (cs.drop off) ∧ wf y
theorem opnF_one {α : Type} {P : Program} {f : Field} {off : Nat} {d : Kd α} {wf : α → Prop} (hoff : f.offset = off) (hc : P.cellsOf f.type = d.sz) (ho : Opn P f.type d wf) : OpnF P [f] off d wf := by
  intro H enc w base spare held fuel cs hl h
  obtain ⟨x, hx⟩ := h f (by simp)
  obtain ⟨y, hk, hw⟩ := ho H enc w base spare held fuel _ x hx
  rw [hoff, hc, List.take_of_length_le (by rw [List.length_drop]; omega)] at hk
  exact ⟨y, hk, hw⟩
theorem opnF_cons {α β : Type} {P : Program} {f : Field} {fs : List Field} {off : Nat} {a : Kd α} {b : Kd β} {wa : α → Prop} {wb : β → Prop} (hoff : f.offset = off) (hc : P.cellsOf f.type = a.sz) (ho : Opn P f.type a wa) (hr : OpnF P fs (off + a.sz) b wb) :
    OpnF P (f :: fs) off (Kd.pair a b) (fun p => wa p.1 ∧ wb p.2) := by
  intro H enc w base spare held fuel cs hl h
  obtain ⟨x, hx⟩ := h f (by simp)
  obtain ⟨y, hk, hw⟩ := ho H enc w base spare held fuel _ x hx
  have hsz : (Kd.pair a b).sz = a.sz + b.sz := rfl
  obtain ⟨z, hk2, hw2⟩ := hr H enc w base spare held fuel cs (by omega) (fun g hg => h g (List.mem_cons_of_mem _ hg))
  rw [hoff, hc] at hk
  refine ⟨(y, z), ⟨(cs.drop off).take a.sz, cs.drop (off + a.sz), ?_, hk, hk2⟩, hw, hw2⟩
  rw [← List.drop_drop, List.take_append_drop]
theorem opn_tuple {α : Type} {P : Program} {t : TypeId} {fs : List Field} {d : Kd α} {wf : α → Prop} (hu : P.underlying t = some (.struct fs.toArray)) (hc : P.cellsOf t = d.sz) (ho : OpnF P fs 0 d wf) :
    Opn P t d wf := by
  intro H enc w base spare held fuel cs x h
  obtain ⟨xs, n, _, _, hl, hlen, hf⟩ := DataW.trod_struct hu h
  obtain ⟨y, hk, hw⟩ := ho H enc w base spare held n cs (by omega) (fun fl hfl => by
    obtain ⟨i, hi, he⟩ := List.getElem_of_mem hfl
    have h1 := hf i fl (by simpa using (List.getElem?_eq_getElem hi).trans (congrArg some he))
    have hlen2 : xs.length = fs.length := by simpa using hlen
    exact ⟨xs[i]'(by omega), by rw [h1, List.getElem?_eq_getElem]⟩)
  exact ⟨y, by simpa using hk, hw⟩
theorem opn_struct {α β : Type} {P : Program} {t : TypeId} {fs : List Field} {d : Kd α} {wf : α → Prop} (f : β → α) (g : α → β) (hfg : ∀ a, f (g a) = a) (hu : P.underlying t = some (.struct fs.toArray)) (hc : P.cellsOf t = d.sz) (ho : OpnF P fs 0 d wf) :
    Opn P t (Kd.iso d f) (fun y => wf (f y)) := by
  intro H enc w base spare held fuel cs x h
  obtain ⟨xs, n, _, _, hl, hlen, hf⟩ := DataW.trod_struct hu h
  obtain ⟨y, hk, hw⟩ := ho H enc w base spare held n cs (by omega) (fun fl hfl => by
    obtain ⟨i, hi, he⟩ := List.getElem_of_mem hfl
    have h1 := hf i fl (by simpa using (List.getElem?_eq_getElem hi).trans (congrArg some he))
    have hlen2 : xs.length = fs.length := by simpa using hlen
    exact ⟨xs[i]'(by omega), by rw [h1, List.getElem?_eq_getElem]⟩)
  exact ⟨g y, by show d.K w (f (g y)) cs; rw [hfg]; simpa using hk, by show wf (f (g y)); rw [hfg]; exact hw⟩
end Go.Proofs.Ytdolplcbokioaaa.Open

/- Plain facts on rounds, lists and whole numbers, for the pure statements. -/
namespace Go.Proofs.Ytdolplcbokioaaa.Pu
set_option linter.unusedVariables false
set_option linter.unusedSimpArgs false
open Go.RowKit Go.Proofs.YtdolplcbokioaaaW.PrintWords

theorem w64 {x : Int} (h1 : -9223372036854775808 ≤ x) (h2 : x ≤ 9223372036854775807) : wrap64 x = x := by
  unfold wrap64; omega
theorem wsucc {i n : Nat} (h : i < n) (hn : n ≤ 9223372036854775807) : wrap64 ((i : Int) + 1) = ((i + 1 : Nat) : Int) := by
  rw [w64 (by omega) (by omega)]; rfl
theorem wf_i64 {n : Int} (h : (Lit.int .i64 n).wf = true) : -9223372036854775808 ≤ n ∧ n ≤ 9223372036854775807 := by
  simp only [Lit.wf, Bool.and_eq_true, decide_eq_true_eq] at h
  have h1 : IntKind.min .i64 = -9223372036854775808 := by decide
  have h2 : IntKind.max .i64 = 9223372036854775807 := by decide
  omega

/-- Rounds: what is told, a step on. -/
theorem ev_some {α : Type} {g : Nat → Option α} {r : α} (h : ∀ k, g (k + 1) = some r) : Ev g r := Ev.step h (Ev.now r)
theorem ev_const {α : Type} {o : Option α} {r : α} (h : o = some r) : Ev (fun _ => o) r := ⟨0, fun _ _ => h⟩
theorem ev_bind {α β : Type} {g : Nat → Option α} {f : Nat → α → Option β} {a : α} {r : β} (h : Ev g a) (k : Ev (fun n => f n a) r) : Ev (fun n => (g n).bind (f n)) r := Ev.bind h k
theorem ev_uniq {α : Type} {g : Nat → Option α} {a b : α} (h : Ev g a) (k : Ev g b) : a = b := by
  obtain ⟨K, hK⟩ := h
  obtain ⟨M, hM⟩ := k
  have h1 := hK (max K M) (Nat.le_max_left _ _)
  rw [hM (max K M) (Nat.le_max_right _ _)] at h1
  injection h1 with h1
  exact h1.symm
theorem ev_ext {α : Type} {g f : Nat → Option α} {r : α} (h : ∀ k, g k = f k) (k : Ev f r) : Ev g r := Ev.congr h k

/-- A row that is made and filled, place by place. -/
theorem ev_fill {β : Type} {L : Nat → List β → Int → Option (List β)} {E : Nat → Int → Option β} {n : Nat} {e : Nat → β} (hn : n ≤ 9223372036854775807)
    (hs : ∀ k xs i, L (k + 1) xs i = if i < (n : Int) then (if 0 ≤ i then ((E k i).bind fun b => if i < (xs.length : Int) then L k (xs.set i.toNat b) (wrap64 (i + 1)) else none) else none) else some xs)
    (hE : ∀ i, i < n → Ev (fun k => E k (i : Int)) (e i)) :
    ∀ (d i : Nat) (xs : List β), xs.length = n → i + d = n → Ev (fun k => L k xs (i : Int)) (xs.take i ++ (List.range' i d).map e) := by
  intro d
  induction d with
  | zero =>
    intro i xs hl hi
    refine ev_some fun k => ?_
    rw [hs, if_neg (by omega)]
    simp [List.take_of_length_le (show xs.length ≤ i by omega)]
  | succ d ih =>
    intro i xs hl hi
    refine Ev.step (f := fun k => (E k (i : Int)).bind fun b => L k (xs.set i b) ((i + 1 : Nat) : Int)) (fun k => ?_) ?_
    · rw [hs, if_pos (by omega), if_pos (by omega), wsucc (n := n) (by omega) hn]
      congr 1
      funext b
      rw [if_pos (by omega)]
      rfl
    · refine ev_bind (hE i (by omega)) ?_
      have h := ih (i + 1) (xs.set i (e i)) (by rw [List.length_set]; exact hl) (by omega)
      have e1 : (xs.set i (e i)).take (i + 1) ++ (List.range' (i + 1) d).map e = xs.take i ++ (List.range' i (d + 1)).map e := by
        rw [List.range'_succ, List.map_cons, List.take_succ_eq_append_getElem (by rw [List.length_set]; omega), List.getElem_set_self, List.take_set_of_le (Nat.le_refl _)]
        simp
      rw [e1] at h
      exact h
theorem map_range {α β : Type} (l : List α) (z : α) (g : α → β) : (List.range' 0 l.length).map (fun i => g (l.getD i z)) = l.map g := by
  apply List.ext_getElem
  · simp
  · intro i h1 h2
    simp only [List.length_map] at h2
    simp [List.getD_eq_getElem?_getD, List.getElem?_eq_getElem h2]
theorem ev_fill_all {α β : Type} {L : Nat → List β → Int → Option (List β)} {E : Nat → Int → Option β} {l : List α} {z : α} {g : α → β} {xs : List β} (hn : l.length ≤ 9223372036854775807)
    (hs : ∀ k xs i, L (k + 1) xs i = if i < (l.length : Int) then (if 0 ≤ i then ((E k i).bind fun b => if i < (xs.length : Int) then L k (xs.set i.toNat b) (wrap64 (i + 1)) else none) else none) else some xs)
    (hE : ∀ i, i < l.length → Ev (fun k => E k (i : Int)) (g (l.getD i z))) (hx : xs.length = l.length) : Ev (fun k => L k xs 0) (l.map g) := by
  have h := ev_fill (e := fun i => g (l.getD i z)) hn hs hE l.length 0 xs hx (by omega)
  rw [map_range] at h
  simpa using h

/-- Every place meets a test, tried place by place. -/
theorem ev_all {L E : Nat → Int → Option Bool} {n m : Nat} (hn : n ≤ 9223372036854775807) (hnm : n ≤ m)
    (hs : ∀ k i, L (k + 1) i = if i < (n : Int) then (if 0 ≤ i then (if i < (m : Int) then ((E k i).bind fun b => if b = true then L k (wrap64 (i + 1)) else some false) else none) else none) else some true)
    (hE : ∀ i, i < n → Ev (fun k => E k (i : Int)) true) : ∀ (d i : Nat), i + d = n → Ev (fun k => L k (i : Int)) true := by
  intro d
  induction d with
  | zero => intro i hi; exact ev_some fun k => by rw [hs, if_neg (by omega)]
  | succ d ih =>
    intro i hi
    refine Ev.step (f := fun k => (E k (i : Int)).bind fun b => if b = true then L k ((i + 1 : Nat) : Int) else some false) (fun k => ?_) (ev_bind (hE i (by omega)) (by simpa using ih (i + 1) (by omega)))
    rw [hs, if_pos (by omega), if_pos (by omega), if_pos (by omega), wsucc (n := n) (by omega) hn]

/-- What is left of a number, place by place, as long as it is not below 0. -/
theorem ev_size {L E : Nat → Int → Int → Option Int} {n : Nat} {P : Nat → Prop} (hn : n ≤ 9223372036854775807)
    (hs : ∀ k a i, L (k + 1) a i = if i < (n : Int) then (if 0 ≤ i then ((E k i a).bind fun t => if t < 0 then some (-1) else L k t (wrap64 (i + 1))) else none) else some a)
    (hE : ∀ i a, i < n → 0 ≤ a → a ≤ 1048576 → ∃ t, Ev (fun k => E k (i : Int) a) t ∧ t ≤ a ∧ (0 ≤ t → P i)) :
    ∀ (d i : Nat) (a : Int), i + d = n → 0 ≤ a → a ≤ 1048576 → ∃ r, Ev (fun k => L k a (i : Int)) r ∧ r ≤ a ∧ (0 ≤ r → ∀ m, i ≤ m → m < n → P m) := by
  intro d
  induction d with
  | zero => intro i a hi h0 h1; exact ⟨a, ev_some fun k => by rw [hs, if_neg (by omega)], Int.le_refl _, fun _ m h2 h3 => by omega⟩
  | succ d ih =>
    intro i a hi h0 h1
    obtain ⟨t, ht, hta, hp⟩ := hE i a (by omega) h0 h1
    have hst : ∀ k, L (k + 1) a (i : Int) = (E k (i : Int) a).bind fun t => if t < 0 then some (-1) else L k t ((i + 1 : Nat) : Int) := fun k => by
      rw [hs, if_pos (by omega), if_pos (by omega), wsucc (n := n) (by omega) hn]
    by_cases hneg : t < 0
    · exact ⟨-1, Ev.step hst (ev_bind ht (by simp only [if_pos hneg]; exact Ev.now _)), by omega, fun h => by omega⟩
    · obtain ⟨r, hr, hra, hq⟩ := ih (i + 1) t (by omega) (by omega) (by omega)
      refine ⟨r, Ev.step hst (ev_bind ht (by simp only [if_neg hneg]; exact hr)), by omega, fun h0r m h2 h3 => ?_⟩
      by_cases e : m = i
      · subst e; exact hp (by omega)
      · exact hq h0r m (by omega) h3
end Go.Proofs.Ytdolplcbokioaaa.Pu

/- More plain facts on rounds: tests in a row, folds, searches. -/
namespace Go.Proofs.Ytdolplcbokioaaa.Pu
set_option linter.unusedVariables false
set_option linter.unusedSimpArgs false
open Go.RowKit Go.Proofs.YtdolplcbokioaaaW.PrintWords

/-- Tests in a row, one a round; then what comes. -/
theorem ev_scan {L : Nat → Int → Option Bool} {g : Nat → Option Bool} {n : Nat} {T : Nat → Bool} {r : Bool}
    (hs : ∀ k i, i < n → L (k + 1) (i : Int) = if T i = true then L k ((i + 1 : Nat) : Int) else some false) (he : ∀ k, L (k + 1) (n : Int) = g k) (hr : Ev g r) :
    ∀ (d i : Nat), i + d = n → Ev (fun k => L k (i : Int)) ((List.range' i d).all T && r) := by
  intro d
  induction d with
  | zero =>
    intro i hi
    obtain rfl : i = n := by omega
    exact Ev.step he hr
  | succ d ih =>
    intro i hi
    rw [List.range'_succ, List.all_cons]
    by_cases h : T i = true
    · rw [h, Bool.true_and]
      exact Ev.step (fun k => by rw [hs k i (by omega), if_pos h]) (ih (i + 1) (by omega))
    · rw [Bool.eq_false_iff.mpr h, Bool.false_and, Bool.false_and]
      exact ev_some fun k => by rw [hs k i (by omega), if_neg h]
/-- Tests in a row, each of many rounds; then what comes. -/
theorem ev_outer {L : Nat → Int → Option Bool} {n : Nat} {T : Nat → Bool} {r0 : Bool}
    (hs : ∀ i r, i < n → Ev (fun k => L k ((i + 1 : Nat) : Int)) r → Ev (fun k => L k (i : Int)) (T i && r)) (he : Ev (fun k => L k (n : Int)) r0) :
    ∀ (d i : Nat), i + d = n → Ev (fun k => L k (i : Int)) ((List.range' i d).all T && r0) := by
  intro d
  induction d with
  | zero =>
    intro i hi
    obtain rfl : i = n := by omega
    exact he
  | succ d ih =>
    intro i hi
    rw [List.range'_succ, List.all_cons, Bool.and_assoc]
    exact hs i _ (by omega) (ih (i + 1) (by omega))
/-- A state that is carried along; then what comes. -/
theorem ev_fold {σ ρ : Type} {L : Nat → σ → Int → Option ρ} {n : Nat} {F : σ → Nat → σ} {fin : σ → ρ} (Inv : Nat → σ → Prop)
    (hs : ∀ s i, i < n → Inv i s → ∀ r, Ev (fun k => L k (F s i) ((i + 1 : Nat) : Int)) r → Ev (fun k => L k s (i : Int)) r) (hi : ∀ s i, i < n → Inv i s → Inv (i + 1) (F s i))
    (he : ∀ s, Inv n s → Ev (fun k => L k s (n : Int)) (fin s)) : ∀ (d i : Nat) (s : σ), i + d = n → Inv i s → Ev (fun k => L k s (i : Int)) (fin ((List.range' i d).foldl F s)) := by
  intro d
  induction d with
  | zero =>
    intro i s h hv
    obtain rfl : i = n := by omega
    exact he s hv
  | succ d ih =>
    intro i s h hv
    rw [List.range'_succ, List.foldl_cons]
    exact hs s i (by omega) hv _ (ih (i + 1) (F s i) (by omega) (hi s i (by omega) hv))
/-- The first place that meets a test, -1 without one. -/
def findI (T : Nat → Bool) : Nat → Nat → Int
  | _, 0 => -1
  | i, d + 1 => if T i = true then (i : Int) else findI T (i + 1) d
theorem ev_find {L : Nat → Int → Option Int} {n : Nat} {T : Nat → Bool}
    (hy : ∀ i, i < n → T i = true → Ev (fun k => L k (i : Int)) (i : Int)) (hn : ∀ i, i < n → T i = false → ∀ r, Ev (fun k => L k ((i + 1 : Nat) : Int)) r → Ev (fun k => L k (i : Int)) r)
    (he : Ev (fun k => L k (n : Int)) (-1)) : ∀ (d i : Nat), i + d = n → Ev (fun k => L k (i : Int)) (findI T i d) := by
  intro d
  induction d with
  | zero =>
    intro i hi
    obtain rfl : i = n := by omega
    exact he
  | succ d ih =>
    intro i hi
    unfold findI
    by_cases h : T i = true
    · rw [if_pos h]; exact hy i (by omega) h
    · rw [if_neg h]; exact hn i (by omega) (Bool.eq_false_iff.mpr h) _ (ih (i + 1) (by omega))
theorem findI_range {T : Nat → Bool} : ∀ (d i : Nat), findI T i d = -1 ∨ ∃ j, i ≤ j ∧ j < i + d ∧ findI T i d = (j : Int) ∧ T j = true
  | 0, i => .inl rfl
  | d + 1, i => by
    unfold findI
    by_cases h : T i = true
    · rw [if_pos h]; exact .inr ⟨i, Nat.le_refl _, by omega, rfl, h⟩
    · rw [if_neg h]
      rcases findI_range d (i + 1) with h1 | ⟨j, h1, h2, h3, h4⟩
      · exact .inl h1
      · exact .inr ⟨j, by omega, by omega, h3, h4⟩
theorem bytes_empty (a : ByteArray) : (a.toList == ([] : List UInt8)) = decide ((a.size : Int) ≤ 0) := by
  rw [ByteArray.toList_eq]
  have h : a.data.toList.length = a.size := by rw [Array.length_toList]; rfl
  cases e : a.data.toList with
  | nil =>
    have h1 : a.size = 0 := by rw [← h, e]; rfl
    rw [decide_eq_true (by omega)]; rfl
  | cons x l =>
    have h1 : a.size = l.length + 1 := by rw [← h, e]; rfl
    rw [decide_eq_false (by omega)]; rfl
theorem getD_mem' {α : Type} {l : List α} {i : Nat} {z : α} (hi : i < l.length) : l.getD i z ∈ l := by
  rw [List.getD_eq_getElem?_getD, List.getElem?_eq_getElem hi]; exact List.getElem_mem hi
end Go.Proofs.Ytdolplcbokioaaa.Pu

/- What the functions on arenas answer: sizes, copies, comparison, and when an arena is right. -/
namespace Go.Proofs.Ytdolplcbokioaaa.Pu
set_option linter.unusedVariables false
set_option linter.unusedSimpArgs false
open Go.RowKit Go.Proofs.Ytdolplcbokioaaa.PB Go.Proofs.YtdolplcbokioaaaW.PrintWords

theorem rd_nat (l : List Int) (i : Nat) : rd l (i : Int) = l.getD i 0 := rfl
theorem rdLK_nat (l : List S175) (i : Nat) : rd_T175 l (i : Int) = l.getD i z175 := rfl
theorem rdIK_nat (l : List S133) (i : Nat) : rd_T133 l (i : Int) = l.getD i z133 := rfl

def toK (x : S175) : S133 := ⟨x.f0, x.f1⟩
def toA (l : List S175) : List S133 := l.map toK

theorem toIntS_ev (l : List Int) (h : l.length ≤ 35184372088832) : Ev (fun k => laws_toIntS.f k l) l := by
  have hn : l.length ≤ 9223372036854775807 := by omega
  have h1 := ev_fill_all (E := fun _ i => some (rd l i)) (l := l) (z := 0) (g := fun x => x) (xs := List.replicate l.length 0) (L := fun k xs i => laws_toIntS.l0 k l xs i) hn (fun k xs i => by
    simp only [laws_toIntS.l0, Option.bind_some]) (fun i _ => by rw [rd_nat]; exact Ev.now _) (by simp)
  rw [List.map_id'] at h1
  refine ev_ext (fun k => ?_) h1
  unfold laws_toIntS.f
  rw [if_pos (by omega), if_pos (by simpa using h)]
  simp
theorem toKnot_ev (b : Bool) (l : List Int) (h : l.length ≤ 35184372088832) : Ev (fun k => laws_toKnot.f k b l) (b, l) := by
  unfold laws_toKnot.f
  exact ev_bind (toIntS_ev l h) (Ev.now _)
theorem toKnotS_ev (l : List S175) (h : l.length ≤ 8796093022208) (hk : ∀ x ∈ l, x.f1.length ≤ 35184372088832) : Ev (fun k => laws_toKnotS.f k l) (toA l) := by
  have hn : l.length ≤ 9223372036854775807 := by omega
  have h1 := ev_fill_all (E := fun k i => (laws_toKnot.f k (rd_T175 l i).f0 (rd_T175 l i).f1).bind fun bt => some (⟨bt.1, bt.2⟩ : S133)) (l := l) (z := z175) (g := toK) (xs := List.replicate l.length z133) (L := fun k xs i => laws_toKnotS.l0 k l xs i) hn (fun k xs i => by
    simp only [laws_toKnotS.l0, Option.bind_assoc, Option.bind_some]) (fun i hi => by
      rw [rdLK_nat]
      have hm : l.getD i z175 ∈ l := by rw [List.getD_eq_getElem?_getD, List.getElem?_eq_getElem hi]; exact List.getElem_mem hi
      exact ev_bind (toKnot_ev _ _ (hk _ hm)) (Ev.now _)) (by simp)
  refine ev_ext (fun k => ?_) h1
  unfold laws_toKnotS.f
  rw [if_pos (by omega), if_pos (by simpa using h)]
  simp
theorem toArena_ev (l : List S175) (h : l.length ≤ 8796093022208) (hk : ∀ x ∈ l, x.f1.length ≤ 35184372088832) : Ev (fun k => laws_toArena.f k l) (toA l) := by
  unfold laws_toArena.f
  exact ev_bind (toKnotS_ev l h hk) (Ev.now _)

theorem eqIntS_ev (l : List Int) (hn : l.length ≤ 9223372036854775807) : Ev (fun k => laws_eqIntS.f k l l) true := by
  have h1 := ev_all (n := l.length) (m := l.length) (L := fun k i => laws_eqIntS.l0 k l l i) (E := fun _ _ => some true) hn (Nat.le_refl _) (fun k i => by simp [laws_eqIntS.l0]) (fun i _ => Ev.now _) l.length 0 (by omega)
  refine ev_ext (fun k => ?_) h1
  unfold laws_eqIntS.f
  rw [if_pos rfl]; rfl
theorem eqKnot_ev (b : Bool) (l : List Int) (hn : l.length ≤ 9223372036854775807) : Ev (fun k => laws_eqKnot.f k b l b l) true := by
  unfold laws_eqKnot.f
  simp only [bne_self_eq_false, Bool.false_eq_true, if_false]
  exact ev_bind (eqIntS_ev l hn) (by simp only [if_true]; exact Ev.now _)
theorem eqKnotS_ev (l : List S133) (hn : l.length ≤ 9223372036854775807) (hk : ∀ x ∈ l, x.f1.length ≤ 9223372036854775807) : Ev (fun k => laws_eqKnotS.f k l l) true := by
  have h1 := ev_all (n := l.length) (m := l.length) (L := fun k i => laws_eqKnotS.l0 k l l i) (E := fun k i => laws_eqKnot.f k (rd_T133 l i).f0 (rd_T133 l i).f1 (rd_T133 l i).f0 (rd_T133 l i).f1) hn (Nat.le_refl _) (fun k i => by simp only [laws_eqKnotS.l0]) (fun i hi => by
    rw [rdIK_nat]
    have hm : l.getD i z133 ∈ l := by rw [List.getD_eq_getElem?_getD, List.getElem?_eq_getElem hi]; exact List.getElem_mem hi
    exact eqKnot_ev _ _ (hk _ hm)) l.length 0 (by omega)
  refine ev_ext (fun k => ?_) h1
  unfold laws_eqKnotS.f
  rw [if_pos rfl]; rfl
theorem eqArena_ev (l : List S133) (hn : l.length ≤ 9223372036854775807) (hk : ∀ x ∈ l, x.f1.length ≤ 9223372036854775807) : Ev (fun k => laws_eqArena.f k l l) true := by
  unfold laws_eqArena.f
  exact ev_bind (eqKnotS_ev l hn hk) (by simp only [if_true]; exact Ev.now _)

theorem szIntS_eq (l : List Int) (a : Int) (h0 : 0 ≤ a) (h1 : a ≤ 1048576) (hn : l.length ≤ 9223372036854775807) : ∃ t, laws_szIntS.f l a = some t ∧ t ≤ a ∧ (0 ≤ t → (l.length : Int) ≤ a) := by
  unfold laws_szIntS.f
  rw [w64 (by omega) (by omega)]
  by_cases h : a - (l.length : Int) < 0
  · exact ⟨-1, by rw [if_pos h], by omega, fun h2 => by omega⟩
  · exact ⟨_, by rw [if_neg h], by omega, fun _ => by omega⟩
theorem szKnot_eq (b : Bool) (l : List Int) (a : Int) (h0 : 0 ≤ a) (h1 : a ≤ 1048576) (hn : l.length ≤ 9223372036854775807) : ∃ t, laws_szKnot.f b l a = some t ∧ t ≤ a ∧ (0 ≤ t → (l.length : Int) ≤ a) := by
  obtain ⟨t, ht, hta, hp⟩ := szIntS_eq l a h0 h1 hn
  unfold laws_szKnot.f
  rw [ht]
  simp only [Option.bind_some]
  by_cases h : t < 0
  · exact ⟨-1, by rw [if_pos h], by omega, fun h2 => by omega⟩
  · exact ⟨t, by rw [if_neg h], hta, hp⟩
theorem szKnotS_ev (l : List S175) (a : Int) (h0 : 0 ≤ a) (h1 : a ≤ 1048576) (hn : l.length ≤ 9223372036854775807) (hk : ∀ x ∈ l, x.f1.length ≤ 9223372036854775807) :
    ∃ r, Ev (fun k => laws_szKnotS.f k l a) r ∧ r ≤ a ∧ (0 ≤ r → (l.length : Int) ≤ a ∧ ∀ x ∈ l, (x.f1.length : Int) ≤ 1048576) := by
  by_cases h : a - (l.length : Int) < 0
  · refine ⟨-1, ⟨0, fun k _ => ?_⟩, by omega, fun h2 => by omega⟩
    show laws_szKnotS.f k l a = _
    unfold laws_szKnotS.f
    rw [w64 (by omega) (by omega), if_pos h]
  · obtain ⟨r, hr, hra, hq⟩ := ev_size (n := l.length) (L := fun k a i => laws_szKnotS.l0 k l a i) (E := fun _ i a => laws_szKnot.f (rd_T175 l i).f0 (rd_T175 l i).f1 a) (P := fun i => ((l.getD i z175).f1.length : Int) ≤ 1048576) hn (fun k a i => by simp only [laws_szKnotS.l0])
      (fun i a hi h2 h3 => by
        have hm : l.getD i z175 ∈ l := by rw [List.getD_eq_getElem?_getD, List.getElem?_eq_getElem hi]; exact List.getElem_mem hi
        obtain ⟨t, ht, hta, hp⟩ := szKnot_eq (rd_T175 l i).f0 (rd_T175 l i).f1 a h2 h3 (by rw [rdLK_nat]; exact hk _ hm)
        exact ⟨t, ev_const ht, hta, fun h4 => by have := hp h4; rw [rdLK_nat] at this; omega⟩) l.length 0 (a - (l.length : Int)) (by omega) (by omega) (by omega)
    refine ⟨r, ev_ext (fun k => ?_) hr, by omega, fun h2 => ⟨by omega, fun x hx => ?_⟩⟩
    · unfold laws_szKnotS.f
      rw [w64 (by omega) (by omega), if_neg h]; rfl
    · obtain ⟨i, hi, rfl⟩ := List.getElem_of_mem hx
      have := hq h2 i (by omega) hi
      rwa [List.getD_eq_getElem?_getD, List.getElem?_eq_getElem hi] at this
theorem szArena_ev (l : List S175) (a : Int) (h0 : 0 ≤ a) (h1 : a ≤ 1048576) (hn : l.length ≤ 9223372036854775807) (hk : ∀ x ∈ l, x.f1.length ≤ 9223372036854775807) :
    ∃ r, Ev (fun k => laws_szArena.f k l a) r ∧ r ≤ a ∧ (0 ≤ r → (l.length : Int) ≤ a ∧ ∀ x ∈ l, (x.f1.length : Int) ≤ 1048576) := by
  obtain ⟨r, hr, hra, hq⟩ := szKnotS_ev l a h0 h1 hn hk
  by_cases h : r < 0
  · exact ⟨-1, by unfold laws_szArena.f; exact ev_bind hr (by simp only [if_pos h]; exact Ev.now _), by omega, fun h2 => by omega⟩
  · exact ⟨r, by unfold laws_szArena.f; exact ev_bind hr (by simp only [if_neg h]; exact Ev.now _), hra, hq⟩
end Go.Proofs.Ytdolplcbokioaaa.Pu

/- When an arena is right, as one test; the program's and the reference's ArenaOk answer it. -/
namespace Go.Proofs.Ytdolplcbokioaaa.Pu
set_option linter.unusedVariables false
set_option linter.unusedSimpArgs false
open Go.RowKit Go.Proofs.Ytdolplcbokioaaa.PB Go.Proofs.YtdolplcbokioaaaW.PrintWords

theorem in_eq (a l h : Int) : impl_in.f a l h = some (decide (l ≤ a ∧ a ≤ h)) := by
  unfold impl_in.f
  by_cases h1 : a ≥ l
  · rw [if_pos h1]; congr 1; simp; omega
  · rw [if_neg h1]; congr 1; simp; omega
theorem l01In_eq (a l h : Int) : spec_l01In.f a l h = some (decide (l ≤ a ∧ a ≤ h)) := by
  unfold spec_l01In.f
  by_cases h1 : a ≥ l
  · rw [if_pos h1]; congr 1; simp; omega
  · rw [if_neg h1]; congr 1; simp; omega

/-- A kid of the knot at place i. -/
def kidB (l : List S133) (i : Nat) (leaf : Bool) (n : Int) : Bool :=
  if leaf = true then decide (0 ≤ n) else decide (n = -1) || (decide (0 ≤ n ∧ n ≤ (i : Int) - 1) && (l.getD n.toNat z133).f0)
def knotB (l : List S133) (i : Nat) (x : S133) : Bool := decide (x.f1.length = 4) && x.f1.all (kidB l i x.f0)
def arenaB (l : List S133) : Bool := (List.range' 0 l.length).all fun i => knotB l i (l.getD i z133)

theorem sArena_step (k : Nat) (kids : List Int) (i j : Nat) (a : List S133) (leaf : Bool) (hi : i < a.length) (hn : a.length ≤ 9223372036854775807) (hj : j < 4) (hk : kids.length = 4) :
    spec_ArenaOk.l1 (k + 1) i j a leaf kids = if kidB a i leaf (kids.getD j 0) = true then spec_ArenaOk.l1 k i ((j + 1 : Nat) : Int) a leaf kids else some false := by
  simp only [spec_ArenaOk.l1]
  rw [if_pos (by omega), if_pos (by omega), if_pos (by omega), wsucc (n := 4) hj (by omega), w64 (x := (i : Int) - 1) (by omega) (by omega), rd_nat]
  generalize kids.getD j 0 = n
  unfold kidB
  cases leaf with
  | true => by_cases h : n < 0 <;> simp [h] <;> omega
  | false =>
    simp only [Bool.false_eq_true, if_false, l01In_eq, Option.bind_some, decide_eq_true_eq]
    by_cases h1 : n = -1
    · simp [h1]
    · by_cases h2 : 0 ≤ n ∧ n ≤ (i : Int) - 1
      · rw [if_neg h1, if_pos h2, if_pos h2.1, if_pos (by omega)]
        simp [h1, h2, rd_T133]
      · simp [h1, h2]
theorem iArena_step (k : Nat) (kids : List Int) (i j : Nat) (a : List S133) (leaf : Bool) (hi : i < a.length) (hn : a.length ≤ 9223372036854775807) (hj : j < 4) (hk : kids.length = 4) :
    impl_ArenaOk.l1 (k + 1) i a a.length i kids kids.length j a leaf kids = if kidB a i leaf (kids.getD j 0) = true then impl_ArenaOk.l1 k i a a.length i kids kids.length ((j + 1 : Nat) : Int) a leaf kids else some false := by
  simp only [impl_ArenaOk.l1]
  rw [if_pos (by omega), if_pos (by omega), if_pos (by omega), wsucc (n := 4) hj (by omega), w64 (x := (i : Int) - 1) (by omega) (by omega), rd_nat]
  generalize kids.getD j 0 = n
  unfold kidB
  cases leaf with
  | true => by_cases h : n < 0 <;> simp [h] <;> omega
  | false =>
    simp only [Bool.false_eq_true, if_false, in_eq, Option.bind_some, decide_eq_true_eq]
    by_cases h1 : n = -1
    · simp [h1]
    · by_cases h2 : 0 ≤ n ∧ n ≤ (i : Int) - 1
      · rw [if_neg h1, if_pos h2, if_pos h2.1, if_pos (by omega)]
        simp [h1, h2, rd_T133]
      · simp [h1, h2]
/-- The kids of one knot, tried in order; then what comes. -/
theorem ev_kids {L : Nat → Int → Option Bool} {g : Nat → Option Bool} {kids : List Int} {T : Int → Bool} {r : Bool} (hk : kids.length = 4)
    (hs : ∀ k j, j < 4 → L (k + 1) ((j : Nat) : Int) = if T (kids.getD j 0) = true then L k ((j + 1 : Nat) : Int) else some false) (he : ∀ k, L (k + 1) 4 = g k) (hr : Ev g r) :
    ∀ (d j : Nat), j + d = 4 → Ev (fun k => L k (j : Int)) ((kids.drop j).all T && r) := by
  intro d
  induction d with
  | zero =>
    intro j hj
    obtain rfl : j = 4 := by omega
    refine Ev.step (f := g) (fun k => he k) ?_
    rw [List.drop_eq_nil_of_le (by omega)]
    exact hr
  | succ d ih =>
    intro j hj
    have hjl : j < kids.length := by omega
    rw [List.drop_eq_getElem_cons hjl, List.all_cons]
    have e : kids.getD j 0 = kids[j] := by rw [List.getD_eq_getElem?_getD, List.getElem?_eq_getElem hjl]; rfl
    by_cases h : T kids[j] = true
    · rw [h, Bool.true_and]
      exact Ev.step (f := fun k => L k ((j + 1 : Nat) : Int)) (fun k => by rw [hs k j (by omega), e, if_pos h]) (ih (j + 1) (by omega))
    · rw [Bool.eq_false_iff.mpr h, Bool.false_and, Bool.false_and]
      exact ev_some fun k => by rw [hs k j (by omega), e, if_neg h]
theorem sArena_ev (a : List S133) (hn : a.length ≤ 9223372036854775807) : Ev (fun k => spec_ArenaOk.f k a) (arenaB a) := by
  have main : ∀ (d i : Nat), i + d = a.length → Ev (fun k => spec_ArenaOk.l0 k (i : Int) a) ((List.range' i d).all fun i => knotB a i (a.getD i z133)) := by
    intro d
    induction d with
    | zero => intro i hi; exact ev_some fun k => by simp only [spec_ArenaOk.l0]; rw [if_neg (by omega)]; rfl
    | succ d ih =>
      intro i hi
      rw [List.range'_succ, List.all_cons]
      unfold knotB
      by_cases h4 : (a.getD i z133).f1.length = 4
      · rw [decide_eq_true h4, Bool.true_and]
        have h := ev_kids (L := fun k j => spec_ArenaOk.l1 k i j a (a.getD i z133).f0 (a.getD i z133).f1) (T := kidB a i (a.getD i z133).f0) h4 (fun k j hj => sArena_step k (a.getD i z133).f1 i j a _ (by omega) hn hj h4)
          (g := fun k => spec_ArenaOk.l0 k ((i + 1 : Nat) : Int) a) (fun k => by simp only [spec_ArenaOk.l1]; rw [if_neg (by omega), wsucc (n := a.length) (by omega) hn]) (ih (i + 1) (by omega)) 4 0 rfl
        refine Ev.step (fun k => ?_) h
        simp only [spec_ArenaOk.l0]
        rw [if_pos (by omega), if_pos (by omega), rdIK_nat, if_pos (by omega)]
        rfl
      · rw [decide_eq_false h4, Bool.false_and, Bool.false_and]
        refine ev_some fun k => ?_
        simp only [spec_ArenaOk.l0]
        rw [if_pos (by omega), if_pos (by omega), rdIK_nat, if_neg (by omega)]
  exact main a.length 0 (by omega)
theorem iArena_ev (a : List S133) (hn : a.length ≤ 9223372036854775807) : Ev (fun k => impl_ArenaOk.f k a) (arenaB a) := by
  have main : ∀ (d i : Nat), i + d = a.length → Ev (fun k => impl_ArenaOk.l0 k a a.length (i : Int) a) ((List.range' i d).all fun i => knotB a i (a.getD i z133)) := by
    intro d
    induction d with
    | zero => intro i hi; exact ev_some fun k => by simp only [impl_ArenaOk.l0]; rw [if_neg (by omega)]; rfl
    | succ d ih =>
      intro i hi
      rw [List.range'_succ, List.all_cons]
      unfold knotB
      by_cases h4 : (a.getD i z133).f1.length = 4
      · rw [decide_eq_true h4, Bool.true_and]
        have h := ev_kids (L := fun k j => impl_ArenaOk.l1 k i a a.length i (a.getD i z133).f1 (a.getD i z133).f1.length j a (a.getD i z133).f0 (a.getD i z133).f1) (T := kidB a i (a.getD i z133).f0) h4 (fun k j hj => iArena_step k (a.getD i z133).f1 i j a _ (by omega) hn hj h4)
          (g := fun k => impl_ArenaOk.l0 k a a.length ((i + 1 : Nat) : Int) a) (fun k => by simp only [impl_ArenaOk.l1]; rw [if_neg (by omega), wsucc (n := a.length) (by omega) hn]) (ih (i + 1) (by omega)) 4 0 rfl
        refine Ev.step (fun k => ?_) h
        simp only [impl_ArenaOk.l0]
        rw [if_pos (by omega), if_pos (by omega), if_pos (by omega), rdIK_nat, if_pos (by omega)]
        rfl
      · rw [decide_eq_false h4, Bool.false_and, Bool.false_and]
        refine ev_some fun k => ?_
        simp only [impl_ArenaOk.l0]
        rw [if_pos (by omega), if_pos (by omega), if_pos (by omega), rdIK_nat, if_neg (by omega)]
  exact main a.length 0 (by omega)
end Go.Proofs.Ytdolplcbokioaaa.Pu

/- The number of a sector of a tree, as one function; the program's and the reference's GetAt answer it. -/
namespace Go.Proofs.Ytdolplcbokioaaa.Pu
set_option linter.unusedVariables false
set_option linter.unusedSimpArgs false
open Go.RowKit Go.Proofs.Ytdolplcbokioaaa.PB Go.Proofs.YtdolplcbokioaaaW.PrintWords

def rootB (a : List S133) (r : Int) : Bool := decide (0 ≤ r ∧ r ≤ (a.length : Int) - 1) && !(a.getD r.toNat z133).f0
def numB (a : List S133) (r s : Int) : Int := if (a.getD r.toNat z133).f1.getD (s / 4).toNat 0 < 0 then 0 else (a.getD ((a.getD r.toNat z133).f1.getD (s / 4).toNat 0).toNat z133).f1.getD (s % 4).toNat 0
def getB (a : List S133) (r s : Int) : Int := if (0 ≤ s ∧ s ≤ 15) ∧ rootB a r = true ∧ arenaB a = true then numB a r s else 0

theorem knot_of {a : List S133} (h : arenaB a = true) {i : Nat} (hi : i < a.length) : (a.getD i z133).f1.length = 4 ∧ ∀ n ∈ (a.getD i z133).f1, kidB a i (a.getD i z133).f0 n = true := by
  unfold arenaB at h
  rw [List.all_eq_true] at h
  have h1 := h i (by simp; omega)
  unfold knotB at h1
  rw [Bool.and_eq_true, decide_eq_true_eq, List.all_eq_true] at h1
  exact h1
theorem getD_mem {α : Type} {l : List α} {i : Nat} {z : α} (hi : i < l.length) : l.getD i z ∈ l := by
  rw [List.getD_eq_getElem?_getD, List.getElem?_eq_getElem hi]; exact List.getElem_mem hi
/-- A kid of a knot that is no leaf: -1, or the place of a leaf. -/
theorem kid_of {a : List S133} (h : arenaB a = true) {r : Nat} (hr : r < a.length) (hf : (a.getD r z133).f0 = false) {j : Nat} (hj : j < 4) :
    (a.getD r z133).f1.getD j 0 = -1 ∨ (0 ≤ (a.getD r z133).f1.getD j 0 ∧ (a.getD r z133).f1.getD j 0 < r ∧ (a.getD ((a.getD r z133).f1.getD j 0).toNat z133).f0 = true) := by
  obtain ⟨h4, hk⟩ := knot_of h hr
  have h1 := hk _ (getD_mem (i := j) (z := 0) (by omega))
  unfold kidB at h1
  rw [hf] at h1
  simp only [Bool.false_eq_true, if_false, Bool.or_eq_true, decide_eq_true_eq, Bool.and_eq_true] at h1
  rcases h1 with h1 | ⟨h1, h2⟩
  · exact .inl h1
  · exact .inr ⟨h1.1, by omega, h2⟩
theorem iRoot_eq (a : List S133) (r : Int) (hn : a.length ≤ 9223372036854775807) : impl_isRoot.f a r = some (rootB a r) := by
  unfold impl_isRoot.f rootB
  rw [w64 (by omega) (by omega), in_eq]
  simp only [Option.bind_some]
  by_cases h : 0 ≤ r ∧ r ≤ (a.length : Int) - 1
  · rw [decide_eq_true h, if_pos rfl, if_pos h.1, if_pos (by omega), Bool.true_and]; rfl
  · rw [decide_eq_false h, if_neg (by decide), Bool.false_and]
theorem sRoot_eq (a : List S133) (r : Int) (hn : a.length ≤ 9223372036854775807) : spec_l11Root.f a r = some (decide (r = -1) || rootB a r) := by
  unfold spec_l11Root.f rootB
  by_cases h0 : r = -1
  · rw [if_pos h0, decide_eq_true h0, Bool.true_or]
  · rw [if_neg h0, decide_eq_false h0, Bool.false_or, w64 (by omega) (by omega), l01In_eq]
    simp only [Option.bind_some]
    by_cases h : 0 ≤ r ∧ r ≤ (a.length : Int) - 1
    · rw [decide_eq_true h, if_pos rfl, if_pos h.1, if_pos (by omega), Bool.true_and]; rfl
    · rw [decide_eq_false h, if_neg (by decide), Bool.false_and]
theorem div4 {s : Int} (h0 : 0 ≤ s) (h1 : s ≤ 15) : wrap64 (Int.tdiv s 4) = s / 4 ∧ Int.tmod s 4 = s % 4 ∧ 0 ≤ s / 4 ∧ s / 4 < 4 ∧ 0 ≤ s % 4 ∧ s % 4 < 4 := by
  rw [Int.tdiv_eq_ediv_of_nonneg h0, Int.tmod_eq_emod_of_nonneg h0, w64 (by omega) (by omega)]
  omega
theorem root_lt {a : List S133} {r : Int} (h : rootB a r = true) : 0 ≤ r ∧ r.toNat < a.length ∧ (a.getD r.toNat z133).f0 = false := by
  unfold rootB at h
  rw [Bool.and_eq_true, decide_eq_true_eq, Bool.not_eq_true'] at h
  exact ⟨h.1.1, by omega, h.2⟩
theorem iNumber_eq (a : List S133) (r s : Int) (ha : arenaB a = true) (hr : rootB a r = true) (h0 : 0 ≤ s) (h1 : s ≤ 15) : impl_numberAt.f a r s = some (numB a r s) := by
  obtain ⟨r0, rl, rf⟩ := root_lt hr
  obtain ⟨d1, d2, d3, d4, d5, d6⟩ := div4 h0 h1
  have h4 := (knot_of ha rl).1
  have hk := kid_of ha rl rf (j := (s / 4).toNat) (by omega)
  unfold impl_numberAt.f numB
  simp only [d1, d2]
  show (if 0 ≤ r then if r < (a.length : Int) then if 0 ≤ s / 4 then if s / 4 < (((a.getD r.toNat z133).f1.length : Nat) : Int) then if (a.getD r.toNat z133).f1.getD (s / 4).toNat 0 < 0 then some 0 else if 0 ≤ (a.getD r.toNat z133).f1.getD (s / 4).toNat 0 then if (a.getD r.toNat z133).f1.getD (s / 4).toNat 0 < (a.length : Int) then if 0 ≤ s % 4 then if s % 4 < (((a.getD ((a.getD r.toNat z133).f1.getD (s / 4).toNat 0).toNat z133).f1.length : Nat) : Int) then some ((a.getD ((a.getD r.toNat z133).f1.getD (s / 4).toNat 0).toNat z133).f1.getD (s % 4).toNat 0) else none else none else none else none else none else none else none else none) = _
  rw [if_pos r0, if_pos (by omega), if_pos d3, if_pos (by omega)]
  rcases hk with hk | ⟨k0, k1, _⟩
  · rw [if_pos (by omega), if_pos (by omega)]
  · have h5 := (knot_of ha (i := ((a.getD r.toNat z133).f1.getD (s / 4).toNat 0).toNat) (by omega)).1
    rw [if_neg (by omega), if_pos k0, if_pos (by omega), if_pos d5, if_pos (by omega), if_neg (by omega)]
theorem sGet_eq (a : List S133) (r s : Int) (ha : arenaB a = true) (hr : rootB a r = true) (h0 : 0 ≤ s) (h1 : s ≤ 15) : spec_l11Get.f a r s = some (numB a r s) := by
  obtain ⟨r0, rl, rf⟩ := root_lt hr
  have h := iNumber_eq a r s ha hr h0 h1
  unfold impl_numberAt.f at h
  unfold spec_l11Get.f
  rw [if_neg (by omega)]
  exact h
theorem iGetAt_ev (a : List S133) (r s : Int) (hn : a.length ≤ 9223372036854775807) : Ev (fun k => impl_GetAt.f k a r s) (getB a r s) := by
  unfold impl_GetAt.f getB
  simp only [in_eq, iRoot_eq a r hn, Option.bind_some, decide_eq_true_eq]
  by_cases h1 : 0 ≤ s ∧ s ≤ 15
  · by_cases h2 : rootB a r = true
    · simp only [if_pos h1, if_pos h2]
      refine ev_bind (iArena_ev a hn) ?_
      by_cases h3 : arenaB a = true
      · simp only [if_pos h3, if_pos (show (0 ≤ s ∧ s ≤ 15) ∧ rootB a r = true ∧ arenaB a = true from ⟨h1, h2, h3⟩)]
        rw [iNumber_eq a r s h3 h2 h1.1 h1.2]
        exact Ev.now _
      · simp only [if_neg h3, if_neg (show ¬ ((0 ≤ s ∧ s ≤ 15) ∧ rootB a r = true ∧ arenaB a = true) from fun h => h3 h.2.2)]
        exact Ev.now _
    · simp only [if_pos h1, if_neg h2, if_neg (show ¬ ((0 ≤ s ∧ s ≤ 15) ∧ rootB a r = true ∧ arenaB a = true) from fun h => h2 h.2.1)]
      exact Ev.now _
  · simp only [if_neg h1, if_neg (show ¬ ((0 ≤ s ∧ s ≤ 15) ∧ rootB a r = true ∧ arenaB a = true) from fun h => h1 h.1)]
    exact Ev.now _
theorem sGetAt_ev (a : List S133) (r s : Int) (hn : a.length ≤ 9223372036854775807) : Ev (fun k => spec_GetAt.f k a r s) (getB a r s) := by
  unfold spec_GetAt.f getB
  refine ev_bind (sArena_ev a hn) ?_
  by_cases h3 : arenaB a = true
  · simp only [if_pos h3, l01In_eq, sRoot_eq a r hn, Option.bind_some]
    by_cases h2 : rootB a r = true
    · simp only [h2, Bool.or_true, if_true]
      by_cases h1 : 0 ≤ s ∧ s ≤ 15
      · simp only [decide_eq_true h1, if_true, if_pos (show (0 ≤ s ∧ s ≤ 15) ∧ True ∧ arenaB a = true from ⟨h1, trivial, h3⟩)]
        rw [sGet_eq a r s h3 h2 h1.1 h1.2]
        exact Ev.now _
      · simp only [decide_eq_false h1, Bool.false_eq_true, if_false, if_neg (show ¬ ((0 ≤ s ∧ s ≤ 15) ∧ True ∧ arenaB a = true) from fun h => h1 h.1)]
        exact Ev.now _
    · have e : getB a r s = 0 := by unfold getB; exact if_neg fun h => h2 h.2.1
      unfold getB at e
      rw [e]
      by_cases h0 : r = -1
      · simp only [decide_eq_true h0, Bool.true_or, if_true]
        by_cases h1 : 0 ≤ s ∧ s ≤ 15
        · simp only [decide_eq_true h1, if_true]
          unfold spec_l11Get.f
          simp only [if_pos (show r < 0 by omega), Option.bind_some]
          exact Ev.now _
        · simp only [decide_eq_false h1, Bool.false_eq_true, if_false]
          exact Ev.now _
      · simp only [decide_eq_false h0, Bool.eq_false_iff.mpr h2, Bool.or_self, Bool.false_eq_true, if_false]
        exact Ev.now _
  · simp only [if_neg h3, if_neg (show ¬ ((0 ≤ s ∧ s ≤ 15) ∧ rootB a r = true ∧ arenaB a = true) from fun h => h3 h.2.2)]
    exact Ev.now _
end Go.Proofs.Ytdolplcbokioaaa.Pu

/- What the functions on stores answer: sizes, copies, comparison, the place of a volume, a sector's chunk. -/
namespace Go.Proofs.Ytdolplcbokioaaa.Pu
set_option linter.unusedVariables false
set_option linter.unusedSimpArgs false
open Go.RowKit Go.Proofs.Ytdolplcbokioaaa.PB Go.Proofs.YtdolplcbokioaaaW.PrintWords

theorem rdLV_nat (l : List S184) (i : Nat) : rd_T184 l (i : Int) = l.getD i z184 := rfl
theorem rdIV_nat (l : List S147) (i : Nat) : rd_T147 l (i : Int) = l.getD i z147 := rfl
def toVl (x : S184) : S147 := ⟨x.f0, x.f1⟩

theorem toVolS_ev (l : List S184) (h : l.length ≤ 1048576) : Ev (fun k => laws_toVolS.f k l) (l.map toVl) := by
  have h1 := ev_fill_all (E := fun _ i => (laws_toVol.f (rd_T184 l i).f0 (rd_T184 l i).f1).bind fun bt => some (⟨bt.1, bt.2⟩ : S147)) (l := l) (z := z184) (g := toVl) (xs := List.replicate l.length z147) (L := fun k xs i => laws_toVolS.l0 k l xs i) (by omega) (fun k xs i => by
    simp only [laws_toVolS.l0, Option.bind_assoc, Option.bind_some]) (fun i hi => by rw [rdLV_nat]; exact Ev.now _) (by simp)
  refine ev_ext (fun k => ?_) h1
  unfold laws_toVolS.f
  rw [if_pos (by omega), if_pos (by simp; omega)]
  simp
theorem toStore_ev (v : List S184) (a : List S175) (n : Int) (hv : v.length ≤ 1048576) (h : a.length ≤ 1048576) (hk : ∀ x ∈ a, x.f1.length ≤ 1048576) : Ev (fun k => laws_toStore.f k v a n) (v.map toVl, toA a, n) := by
  unfold laws_toStore.f
  exact ev_bind (toVolS_ev v hv) (ev_bind (toArena_ev a (by omega) (fun x hx => by have := hk x hx; omega)) (Ev.now _))
theorem eqVolS_ev (l : List S147) (hn : l.length ≤ 1048576) : Ev (fun k => laws_eqVolS.f k l l) true := by
  have h1 := ev_all (n := l.length) (m := l.length) (L := fun k i => laws_eqVolS.l0 k l l i) (E := fun _ i => laws_eqVol.f (rd_T147 l i).f0 (rd_T147 l i).f1 (rd_T147 l i).f0 (rd_T147 l i).f1) (by omega) (Nat.le_refl _) (fun k i => by simp only [laws_eqVolS.l0])
    (fun i _ => ev_const (by simp [laws_eqVol.f])) l.length 0 (by omega)
  refine ev_ext (fun k => ?_) h1
  unfold laws_eqVolS.f
  rw [if_pos rfl]; rfl
theorem eqStore_ev (v : List S147) (a : List S133) (n : Int) (hv : v.length ≤ 1048576) (hn : a.length ≤ 9223372036854775807) (hk : ∀ x ∈ a, x.f1.length ≤ 9223372036854775807) : Ev (fun k => laws_eqStore.f k v a n v a n) true := by
  unfold laws_eqStore.f
  refine ev_bind (eqVolS_ev v hv) ?_
  simp only [if_true]
  refine ev_bind (eqArena_ev a hn hk) ?_
  simp only [if_true]
  exact Ev.now _
theorem szStore_ev (v : List S184) (l : List S175) (n a : Int) (h0 : 0 ≤ a) (h1 : a ≤ 1048576) (hv : v.length ≤ 9223372036854775807) (hn : l.length ≤ 9223372036854775807) (hk : ∀ x ∈ l, x.f1.length ≤ 9223372036854775807) :
    ∃ r, Ev (fun k => laws_szStore.f k v l n a) r ∧ r ≤ a ∧ (0 ≤ r → v.length ≤ 1048576 ∧ l.length ≤ 1048576 ∧ ∀ x ∈ l, x.f1.length ≤ 1048576) := by
  unfold laws_szStore.f laws_szVolS.f
  rw [w64 (by omega) (by omega)]
  by_cases h : a - (v.length : Int) < 0
  · exact ⟨-1, by simp only [if_pos h, Option.bind_some, if_pos (show (-1 : Int) < 0 by omega)]; exact Ev.now _, by omega, fun h2 => by omega⟩
  · simp only [if_neg h, Option.bind_some]
    obtain ⟨r, hr, hra, hq⟩ := szArena_ev l (a - (v.length : Int)) (by omega) (by omega) hn hk
    by_cases h2 : r < 0
    · exact ⟨-1, ev_bind hr (by simp only [if_pos h2]; exact Ev.now _), by omega, fun h3 => by omega⟩
    · refine ⟨r, ev_bind hr (by simp only [if_neg h2]; exact Ev.now _), by omega, fun h3 => ?_⟩
      obtain ⟨a1, a2⟩ := hq h3
      exact ⟨by omega, by omega, fun x hx => by have := a2 x hx; omega⟩
/-- What a law on a store begins with. -/
theorem store_start {v : List S184} {l : List S175} {n a : Int} (h0 : 0 ≤ a) (h1 : a ≤ 1048576) (hv : v.length ≤ maxLen) (hl : l.length ≤ maxLen) (hx : ∀ x ∈ l, x.f1.length ≤ maxLen) :
    ∃ r, Ev (fun k => laws_szStore.f k v l n a) r ∧ r ≤ a ∧ (0 ≤ r → Ev (fun k => laws_toStore.f k v l n) (v.map toVl, toA l, n) ∧ Ev (fun k => laws_eqStore.f k (v.map toVl) (toA l) n (v.map toVl) (toA l) n) true ∧ (v.map toVl).length ≤ 1048576 ∧ (toA l).length ≤ 1048576 ∧ ∀ x ∈ toA l, x.f1.length ≤ 1048576) := by
  unfold maxLen at hv hl hx
  obtain ⟨r, hr, hra, hq⟩ := szStore_ev v l n a h0 h1 (by omega) (by omega) (fun x h => by have := hx x h; omega)
  refine ⟨r, hr, hra, fun h2 => ?_⟩
  obtain ⟨a1, a2, a3⟩ := hq h2
  have hlen : (toA l).length = l.length := by unfold toA; exact List.length_map _
  have hlv : (v.map toVl).length = v.length := List.length_map _
  have hm : ∀ x ∈ toA l, x.f1.length ≤ 1048576 := by
    intro x h
    unfold toA at h
    obtain ⟨y, hy, rfl⟩ := List.mem_map.1 h
    exact a3 y hy
  exact ⟨toStore_ev v l n a1 a2 a3, eqStore_ev _ _ n (by omega) (by omega) (fun x h => by have := hm x h; omega), by omega, by omega, hm⟩

/-- The place of a volume, or -1. -/
def volB (v : List S147) (id : Int) : Int := findI (fun i => decide ((v.getD i z147).f0 = id)) 0 v.length
theorem volB_cases (v : List S147) (id : Int) : volB v id = -1 ∨ ∃ j : Nat, j < v.length ∧ volB v id = (j : Int) := by
  rcases findI_range (T := fun i => decide ((v.getD i z147).f0 = id)) v.length 0 with h | ⟨j, _, h2, h3, _⟩
  · exact .inl h
  · exact .inr ⟨j, by omega, h3⟩
theorem iVolAt_ev (v : List S147) (a : List S133) (n id : Int) (hv : v.length ≤ 1048576) : Ev (fun k => impl_volAt.f k v a n id) (volB v id) := by
  refine ev_find (L := fun k i => impl_volAt.l0 k id v (v.length : Int) i) (n := v.length) (T := fun i => decide ((v.getD i z147).f0 = id)) (fun i hi ht => ?_) (fun i hi ht r hr => ?_) (ev_some fun k => by simp only [impl_volAt.l0]; rw [if_neg (by omega)]) v.length 0 (by omega)
  · refine ev_some fun k => ?_
    simp only [impl_volAt.l0]
    rw [if_pos (by omega), if_pos (by omega), if_pos (by omega), rdIV_nat, if_pos (of_decide_eq_true ht)]
  · refine Ev.step (fun k => ?_) hr
    simp only [impl_volAt.l0]
    rw [if_pos (by omega), if_pos (by omega), if_pos (by omega), rdIV_nat, if_neg (of_decide_eq_false ht), wsucc (n := v.length) hi (by omega)]
theorem sVolAt_ev (v : List S147) (a : List S133) (n id : Int) (hv : v.length ≤ 1048576) : Ev (fun k => spec_l12At.f k v a n id) (volB v id) := by
  refine ev_find (L := fun k i => spec_l12At.l0 k id i v a n) (n := v.length) (T := fun i => decide ((v.getD i z147).f0 = id)) (fun i hi ht => ?_) (fun i hi ht r hr => ?_) (ev_some fun k => by simp only [spec_l12At.l0]; rw [if_neg (by omega)]) v.length 0 (by omega)
  · refine ev_some fun k => ?_
    simp only [spec_l12At.l0]
    rw [if_pos (by omega), if_pos (by omega), rdIV_nat, if_pos (of_decide_eq_true ht)]
  · refine Ev.step (fun k => ?_) hr
    simp only [spec_l12At.l0]
    rw [if_pos (by omega), if_pos (by omega), rdIV_nat, if_neg (of_decide_eq_false ht), wsucc (n := v.length) hi (by omega)]
end Go.Proofs.Ytdolplcbokioaaa.Pu

/- A sector's chunk, as one function; the program's and the reference's ChunkOf answer it. -/
namespace Go.Proofs.Ytdolplcbokioaaa.Pu
set_option linter.unusedVariables false
set_option linter.unusedSimpArgs false
open Go.RowKit Go.Proofs.Ytdolplcbokioaaa.PB Go.Proofs.YtdolplcbokioaaaW.PrintWords

def chunkB (v : List S147) (a : List S133) (id s : Int) : Int := if volB v id < 0 then 0 else getB a (v.getD (volB v id).toNat z147).f1 s
theorem iChunkOf_ev (v : List S147) (a : List S133) (n id s : Int) (hv : v.length ≤ 1048576) (ha : a.length ≤ 9223372036854775807) : Ev (fun k => impl_ChunkOf.f k v a n id s) (chunkB v a id s) := by
  unfold impl_ChunkOf.f chunkB
  refine ev_bind (iVolAt_ev v a n id hv) ?_
  rcases volB_cases v id with h | ⟨j, hj, h⟩
  · simp only [h, if_pos (show (-1 : Int) < 0 by omega)]; exact Ev.now _
  · simp only [h, if_neg (show ¬ ((j : Int) < 0) by omega), if_pos (show 0 ≤ (j : Int) by omega), if_pos (show (j : Int) < (v.length : Int) by omega), rdIV_nat, Int.toNat_natCast]
    exact ev_bind (iGetAt_ev a _ s ha) (Ev.now _)
theorem sChunkOf_ev (v : List S147) (a : List S133) (n id s : Int) (hv : v.length ≤ 1048576) (ha : a.length ≤ 9223372036854775807) : Ev (fun k => spec_ChunkOf.f k v a n id s) (chunkB v a id s) := by
  unfold spec_ChunkOf.f chunkB
  refine ev_bind (sVolAt_ev v a n id hv) ?_
  rcases volB_cases v id with h | ⟨j, hj, h⟩
  · simp only [h, if_pos (show (-1 : Int) < 0 by omega)]; exact Ev.now _
  · simp only [h, if_neg (show ¬ ((j : Int) < 0) by omega), if_pos (show 0 ≤ (j : Int) by omega), if_pos (show (j : Int) < (v.length : Int) by omega), rdIV_nat, Int.toNat_natCast]
    exact ev_bind (sGetAt_ev a _ s ha) (Ev.now _)
end Go.Proofs.Ytdolplcbokioaaa.Pu

/- FnExactChunkOf: the program's and the reference's chunk of a sector are one. -/
namespace Go.Proofs.Ytdolplcbokioaaa.Pure
set_option linter.unusedVariables false
set_option linter.unusedSimpArgs false
open Go.RowKit Go.Proofs.Ytdolplcbokioaaa.PB Go.Proofs.YtdolplcbokioaaaW.PrintWords Go.Proofs.Ytdolplcbokioaaa.Pu

theorem FnExactChunkOf : ∀ (l0_0 : List S184) (l0_1 : List S175) (a0_2 : Int) (a1 : Int) (a2 : Int), (l0_0.length ≤ maxLen ∧ ∀ x_l0_0 ∈ l0_0, ((Lit.int .i64 x_l0_0.f0).wf = true ∧ (Lit.int .i64 x_l0_0.f1).wf = true)) → (l0_1.length ≤ maxLen ∧ ∀ x_l0_1 ∈ l0_1, (True ∧ (x_l0_1.f1.length ≤ maxLen ∧ ∀ x_x_l0_1f1 ∈ x_l0_1.f1, (Lit.int .i64 x_x_l0_1f1).wf = true))) → (Lit.int .i64 a0_2).wf = true → (Lit.int .i64 a1).wf = true → (Lit.int .i64 a2).wf = true → ∃ k, laws_FnExactChunkOf.f k l0_0 l0_1 a0_2 a1 a2 = some true := by
  intro v l n a1 a2 ⟨hv, _⟩ ⟨hl, hx⟩ _ _ _
  refine Ev.rounds (g := fun k => laws_FnExactChunkOf.f k v l n a1 a2) ?_
  obtain ⟨r, hr, _, hq⟩ := store_start (n := n) (a := 1048576) (by omega) (by omega) hv hl (fun x h => (hx x h).2.1)
  unfold laws_FnExactChunkOf.f
  refine ev_bind hr ?_
  by_cases h : r < 0
  · simp only [if_pos h]; exact Ev.now _
  · simp only [if_neg h]
    obtain ⟨hto, heq, hn, ha, _⟩ := hq (by omega)
    have ha2 : (toA l).length ≤ 9223372036854775807 := by omega
    refine ev_bind hto (ev_bind (sChunkOf_ev _ _ n a1 a2 hn ha2) (ev_bind hto (ev_bind (iChunkOf_ev _ _ n a1 a2 hn ha2) ?_)))
    simp only [if_true]
    exact ev_bind hto (ev_bind heq (by simp only [if_true]; exact Ev.now _))
end Go.Proofs.Ytdolplcbokioaaa.Pure

/- FnExactChunkOf: whatever the input, the law returns true, and its arguments read as they did. The row, out of the law's own walk and the pure statement. -/
namespace Go.Proofs.Ytdolplcbokioaaa.fnExactChunkOf
open Go.ChangeShapes Go.WideShapes Go.ChangeAt Go.RowKit Go.Proofs.Ytdolplcbokioaaa.Open Go.Proofs.YtdolplcbokioaaaW.PrintWords Go.Proofs.Ytdolplcbokioaaa.PB
open Go.ChangeMaps (open_string shut_string)
theorem own : ownKnob Try.prog.godebug = none := by kernel_rfl
theorem laidOut : laidOutB Try.prog = true := by kernel_rfl
set_option maxRecDepth 100000 in
theorem o175 : Opn Try.prog 175 k175 (fun x => (True ∧ (x.f1.length ≤ maxLen ∧ ∀ x_xf1 ∈ x.f1, (Lit.int .i64 x_xf1).wf = true))) := opn_struct (d := (Kd.pair Kd.bool (Kd.slice 3 (Kd.int .i64)))) (wf := fun (y : Bool × (List Int)) => (True ∧ (y.2.length ≤ maxLen ∧ ∀ x_y2 ∈ y.2, (Lit.int .i64 x_y2).wf = true))) (fun x : S175 => (x.f0, x.f1)) (fun y => (⟨y.1, y.2⟩ : S175)) (fun _ => rfl) Try.underlying175 (by kernel_rfl) (opnF_cons rfl (by kernel_rfl) (opn_bool Try.underlying4) (opnF_one rfl (by kernel_rfl) (opn_slice Try.underlying26 (by kernel_rfl) (opn_int Try.underlying3))))
set_option maxRecDepth 100000 in
theorem p53 : Opn Try.prog 53 (Kd.slice 175 k175) (fun (y : (List S175)) => (y.length ≤ maxLen ∧ ∀ x_y ∈ y, (True ∧ (x_y.f1.length ≤ maxLen ∧ ∀ x_x_yf1 ∈ x_y.f1, (Lit.int .i64 x_x_yf1).wf = true)))) := opn_tuple Try.underlying53 (by kernel_rfl) (opnF_one rfl (by kernel_rfl) (opn_slice Try.underlying51 (by kernel_rfl) o175))
set_option maxRecDepth 100000 in
theorem o184 : Opn Try.prog 184 k184 (fun x => ((Lit.int .i64 x.f0).wf = true ∧ (Lit.int .i64 x.f1).wf = true)) := opn_struct (d := (Kd.pair (Kd.int .i64) (Kd.int .i64))) (wf := fun (y : Int × Int) => ((Lit.int .i64 y.1).wf = true ∧ (Lit.int .i64 y.2).wf = true)) (fun x : S184 => (x.f0, x.f1)) (fun y => (⟨y.1, y.2⟩ : S184)) (fun _ => rfl) Try.underlying184 (by kernel_rfl) (opnF_cons rfl (by kernel_rfl) (opn_int Try.underlying3) (opnF_one rfl (by kernel_rfl) (opn_int Try.underlying3)))
set_option maxRecDepth 100000 in
theorem p78 : Opn Try.prog 78 (Kd.pair (Kd.slice 184 k184) (Kd.pair (Kd.slice 175 k175) (Kd.int .i64))) (fun (y : ((List S184) × (List S175) × Int)) => ((y.1.length ≤ maxLen ∧ ∀ x_y1 ∈ y.1, ((Lit.int .i64 x_y1.f0).wf = true ∧ (Lit.int .i64 x_y1.f1).wf = true)) ∧ ((y.2.1.length ≤ maxLen ∧ ∀ x_y21 ∈ y.2.1, (True ∧ (x_y21.f1.length ≤ maxLen ∧ ∀ x_x_y21f1 ∈ x_y21.f1, (Lit.int .i64 x_x_y21f1).wf = true))) ∧ (Lit.int .i64 y.2.2).wf = true))) := opn_tuple Try.underlying78 (by kernel_rfl) (opnF_cons rfl (by kernel_rfl) (opn_slice Try.underlying76 (by kernel_rfl) o184) (opnF_cons (a := (Kd.slice 175 k175)) (wa := fun (y : (List S175)) => (y.length ≤ maxLen ∧ ∀ x_y ∈ y, (True ∧ (x_y.f1.length ≤ maxLen ∧ ∀ x_x_yf1 ∈ x_y.f1, (Lit.int .i64 x_x_yf1).wf = true)))) rfl (by kernel_rfl) p53 (opnF_one rfl (by kernel_rfl) (opn_int Try.underlying3))))
set_option maxRecDepth 100000 in
set_option maxHeartbeats 4000000 in
theorem lifted (os : Os) (started : os.Started) (H : Type) (enc : TypeId × Value → H) :
    ReturnsInHanded {} Try.checked os 7 .any (Rows.fnExactChunkOfSpec.pre6 enc Try.prog Try.f7 Rows.fnExactChunkOfRow.domain false) (Rows.fnExactChunkOfSpec.post enc Try.prog Try.f7 false true false false) := by
  refine returnsInHanded_of_change_sized (C := Try.checked) own started (by kernel_rfl) Try.func7
    (ChangeSpec.witness6 (enc := enc) (C := Try.checked) false ⟨#[], #[.agg #[.slice none 0 0, .slice none 0 0, .int .i64 0], .int .i64 0, .int .i64 0], []⟩ 8 (by kernel_rfl) (by kernel_rfl) (by kernel_rfl) (by kernel_rfl)) ?_
  intro W base args ds gs before hval0 hW hcnd hsz0 _
  have hval : ∀ (j : Nat) t v, Try.f7.params[j]? = some t → args[j]? = some v → Value.okWide Try.prog W .any base t v := hval0
  have hW' := hW
  obtain ⟨p, q, hA0, hV, rfl, hfz, hnd⟩ := hW
  have hA : DataW.TrodAll enc Try.prog W 0 (fun _ => true) true Try.f7.params.toList args.toList ds p := hA0
  rw [Try.params7] at hA hval
  obtain ⟨v0, vs0, d0, ds0, p0, q0, hargs, rfl, rfl, h0, r0⟩ := trodAll_cons hA
  obtain ⟨v1, vs1, d1, ds1, p1, q1, rfl, rfl, rfl, h1, r1⟩ := trodAll_cons r0
  obtain ⟨v2, vs2, d2, ds2, p2, q2, rfl, rfl, rfl, h2, r2⟩ := trodAll_cons r1
  obtain ⟨rfl, rfl, rfl⟩ := trodAll_nil r2
  obtain rfl : args = #[v0, v1, v2] := by cases args; simp_all
  obtain ⟨rfl, rfl⟩ := trodVars_none hV
  have k0 := h0
  have lt0 : ∀ x ∈ p0, x.block < W.heap.size := by obtain ⟨m, hm⟩ := k0; exact DataW.trod_lt m _ _ _ hm
  obtain ⟨fu0, hf0⟩ := h0
  obtain ⟨y0, K0, Y0⟩ := p78 H enc W 0 (fun _ => true) true fu0 _ _ hf0
  obtain ⟨cs0, rfl, sz0⟩ := okWide_struct Try.underlying78 (hval 0 78 v0 rfl rfl)
  obtain ⟨c0_0, c0_r0, ec0_r0, hc0_0, hc0_r0⟩ := K0
  obtain ⟨Ac0_0, Cc0_0, Ec0_0, Lc0_0, Gc0_0⟩ := hc0_0
  obtain ⟨c0_r0_1, c0_r0_r1, ec0_r0_r1, hc0_r0_1, hc0_r0_r1⟩ := hc0_r0
  obtain ⟨Ac0_r0_1, Cc0_r0_1, Ec0_r0_1, Lc0_r0_1, Gc0_r0_1⟩ := hc0_r0_1
  have Ec0_r0_r1 := hc0_r0_r1
  have E0 : cs0 = #[.slice Ac0_0 y0.1.length Cc0_0, .slice Ac0_r0_1 y0.2.1.length Cc0_r0_1, .int .i64 y0.2.2] := by
    apply Array.toList_inj.1
    have z : cs0.toList = _ := ec0_r0
    rw [z]
    rw [ec0_r0_r1, Ec0_0, Ec0_r0_1, Ec0_r0_r1]
    rfl
  subst E0
  have k1 := h1
  have lt1 : ∀ x ∈ p1, x.block < W.heap.size := by obtain ⟨m, hm⟩ := k1; exact DataW.trod_lt m _ _ _ hm
  obtain ⟨fu1, hf1⟩ := h1
  obtain ⟨y1, K1, Y1⟩ := (opn_int Try.underlying3) H enc W 0 (fun _ => true) true fu1 _ _ hf1
  have Ec1 := K1
  obtain ⟨a1, rfl, _⟩ := open_int Try.underlying3 (hval 1 3 v1 rfl rfl) k1
  obtain rfl : y1 = a1 := by
    have z : [Value.int .i64 a1] = [Value.int .i64 y1] := Ec1
    have z2 := List.head_eq_of_cons_eq z
    injection z2 with z3 z4 <;> first | exact z4.symm | exact z3.symm
  have k2 := h2
  have lt2 : ∀ x ∈ p2, x.block < W.heap.size := by obtain ⟨m, hm⟩ := k2; exact DataW.trod_lt m _ _ _ hm
  obtain ⟨fu2, hf2⟩ := h2
  obtain ⟨y2, K2, Y2⟩ := (opn_int Try.underlying3) H enc W 0 (fun _ => true) true fu2 _ _ hf2
  have Ec2 := K2
  obtain ⟨a2, rfl, _⟩ := open_int Try.underlying3 (hval 2 3 v2 rfl rfl) k2
  obtain rfl : y2 = a2 := by
    have z : [Value.int .i64 a2] = [Value.int .i64 y2] := Ec2
    have z2 := List.head_eq_of_cons_eq z
    injection z2 with z3 z4 <;> first | exact z4.symm | exact z3.symm
  obtain ⟨k, hp⟩ := Pure.FnExactChunkOf y0.1 y0.2.1 y0.2.2 y1 y2 Y0.1 Y0.2.1 Y0.2.2 Y1 Y2
  clear hA0 hval0 hsz0
  refine (laws_FnExactChunkOf.calls k Ac0_0 Cc0_0 y0.1 Ac0_r0_1 Cc0_r0_1 y0.2.1 y0.2.2 y1 y2 true ⟨rfl⟩ W Gc0_0 Lc0_0 Gc0_r0_1 Lc0_r0_1 hp).mono fun e W' ⟨he, bel0⟩ => ?_
  have bel : Below W.heap.size W W' := bel0
  subst he
  exact ⟨_, rfl, _, _, _, [], _, [], hW', trodAll_mk1 (shut_bool Try.underlying4 _), (trodAll_cons_mk (Below.trod laidOut (by kernel_rfl) (of_decide_eq_true (by kernel_rfl)) k0 bel lt0) (trodAll_cons_mk (Below.trod laidOut (by kernel_rfl) (of_decide_eq_true (by kernel_rfl)) k1 bel lt1) (trodAll_cons_mk (Below.trod laidOut (by kernel_rfl) (of_decide_eq_true (by kernel_rfl)) k2 bel lt2) trodAll_mk0))), rfl, bel.frame _, fun h => by cases h⟩
theorem over : Rows.fnExactChunkOfRow.holds Try.pinned (OpenSpec.ofChange Rows.fnExactChunkOfSpec) :=
  OpenClaim.holds_of_wide 7 Try.f7 rfl rfl rfl rfl rfl rfl rfl ⟨rfl, rfl, rfl, rfl, rfl⟩ rfl rfl rfl rfl rfl (by kernel_rfl) Try.func7 (by kernel_rfl)
    (of_decide_eq_true (by kernel_rfl)) (by unfold Func.isWrapper; first | (rw [if_pos (by decide +kernel)]; kernel_rfl) | (rw [if_neg (by decide +kernel)]; exact ⟨rfl, rfl⟩))
    (fun os started H enc _ => lifted os started H enc)
theorem proved : Rows.FnExactChunkOfSaid := over
#print axioms proved
end Go.Proofs.Ytdolplcbokioaaa.fnExactChunkOf
namespace Go.Proofs.Ytdolplcbokioaaa
/-- The row, under a short name, for the claim. -/
theorem fnExactChunkOf_holds : Rows.FnExactChunkOfSaid := fnExactChunkOf.proved
end Go.Proofs.Ytdolplcbokioaaa
