/- FnExactBaseRecs: functions of the translation as Lean functions with what their calls come to, plain lemmas on them, and, at the end, the row. Parts of one proof, merged by a program of this session; each part's own sentence stands at its head. -/
import Derived.ChangeArms
import Derived.DataReads
import Derived.Test.YtijbejiajaiciaaRows
import Derived.WalkKit
import Derived.ProofKit
import Derived.OpenShut
import Derived.ShutString
import Derived.ChangeOld
import Derived.Below
import Derived.SizedLaws
import Derived.Test.YtijbejiajaiciaaMFnExactBaseRecsc
/- Functions of the translation as plain Lean functions, and for each that its call comes to just what its Lean function answers; its conditions stand in each theorem. Written by a program of this session. -/
namespace Go.Proofs.Ytijbejiajaiciaa.PC
open Go.RowKit Go.Proofs.YtijbejiajaiciaaW.PrintWords Go.Proofs.YtijbejiajaiciaaW.PrintLast Go.Proofs.YtijbejiajaiciaaW.PrintMore
attribute [local go_sem] max2_int min2_int max_two min_two max_three min_three max_four min_four   -- for this text's walks alone
set_option linter.unusedVariables false
set_option linter.unusedSimpArgs false

/-! ### laws_eqStore: function 12 -/
def laws_eqStore.f (k : Nat) (l0_0 : List (S124)) (l0_1 : List (S138)) (a0_2 : Int) (l1_0 : List (S124)) (l1_1 : List (S138)) (a1_2 : Int) : Option (Bool) := (laws_eqVolS.f k l0_0 l1_0).bind fun t121 => (if t121 = true then ((laws_eqArena.f k l0_1 l1_1).bind fun t122 => (if t122 = true then (if a0_2 = a1_2 then (some true) else (some false)) else (some false))) else (some false))
theorem laws_eqStore.mono : ∀ a0 a1 a2 a3 a4 a5 k, LeO (laws_eqStore.f k a0 a1 a2 a3 a4 a5) (laws_eqStore.f (k + 1) a0 a1 a2 a3 a4 a5) := by
  intro a0 a1 a2 a3 a4 a5 k
  unfold laws_eqStore.f
  repeat' first
      | (with_reducible exact laws_eqArena.mono _ _ _)
      | (with_reducible exact laws_eqVolS.mono _ _ _)
      | (with_reducible exact LeO.refl _)
      | (with_reducible exact LeO.none _)
      | (with_reducible refine LeO.ite ?_ ?_)
      | (with_reducible refine LeO.bind ?_ (fun _ => ?_))
      | exact laws_eqArena.mono _ _ _
      | exact laws_eqVolS.mono _ _ _
      | exact LeO.none _
      | refine LeO.ite ?_ ?_
      | refine LeO.bind ?_ (fun _ => ?_)
set_option maxHeartbeats 8000000 in
set_option maxRecDepth 100000 in
theorem laws_eqStore.calls (k : Nat) (A0_0 : Option Addr) (c0_0 : Nat) (l0_0 : List (S124)) (A0_1 : Option Addr) (c0_1 : Nat) (l0_1 : List (S138)) (a0_2 : Int) (A1_0 : Option Addr) (c1_0 : Nat) (l1_0 : List (S124)) (A1_1 : Option Addr) (c1_1 : Nat) (l1_1 : List (S138)) (a1_2 : Int) (r : Bool) (w : World) (hr0_0 : Kd.C k124 w A0_0 l0_0.length l0_0) (hc0_0 : l0_0.length ≤ c0_0) (hr0_1 : Kd.C k138 w A0_1 l0_1.length l0_1) (hc0_1 : l0_1.length ≤ c0_1) (hr1_0 : Kd.C k124 w A1_0 l1_0.length l1_0) (hc1_0 : l1_0.length ≤ c1_0) (hr1_1 : Kd.C k138 w A1_1 l1_1.length l1_1) (hc1_1 : l1_1.length ≤ c1_1) (h : laws_eqStore.f k l0_0 l0_1 a0_2 l1_0 l1_1 a1_2 = some r) :
    Calls Try.prog 12 #[.agg #[.slice A0_0 l0_0.length c0_0, .slice A0_1 l0_1.length c0_1, .int .i64 a0_2], .agg #[.slice A1_0 l1_0.length c1_0, .slice A1_1 l1_1.length c1_1, .int .i64 a1_2]] w fun e w' => e = .returned (.bool r) ∧ Below w.heap.size w w' := by
  have hu27 := Try.underlying27
  have hu25 := Try.underlying25
  have HR0_0 := Aside0.mk hr0_0
  have HC0_0 := Aside0.mk hc0_0
  clear hr0_0 hc0_0
  have HR0_1 := Aside0.mk hr0_1
  have HC0_1 := Aside0.mk hc0_1
  clear hr0_1 hc0_1
  have HR1_0 := Aside0.mk hr1_0
  have HC1_0 := Aside0.mk hc1_0
  clear hr1_0 hc1_0
  have HR1_1 := Aside0.mk hr1_1
  have HC1_1 := Aside0.mk hc1_1
  clear hr1_1 hc1_1
  have HB := Aside0.mk (Below.refl w.heap.size w)
  have H : ((laws_eqVolS.f k l0_0 l1_0).bind fun t121 => (if t121 = true then ((laws_eqArena.f k l0_1 l1_1).bind fun t122 => (if t122 = true then (if a0_2 = a1_2 then (some true) else (some false)) else (some false))) else (some false))) = some r := h
  clear h
  replace H := Option.bind_eq_some_iff.mp H
  obtain ⟨t121, A30, H⟩ := H
  replace H : (if t121 = true then ((laws_eqArena.f k l0_1 l1_1).bind fun t122 => (if t122 = true then (if a0_2 = a1_2 then (some true) else (some false)) else (some false))) else (some false)) = some r := H
  have A3 := Aside0.mk A30
  clear A30
  by_cases c4 : t121 = true
  · subst c4
    have H1 : ((laws_eqArena.f k l0_1 l1_1).bind fun t122 => (if t122 = true then (if a0_2 = a1_2 then (some true) else (some false)) else (some false))) = some r := by rw [if_pos rfl] at H; exact H
    clear H
    have H := H1
    clear H1
    replace H := Option.bind_eq_some_iff.mp H
    obtain ⟨t122, A50, H⟩ := H
    replace H : (if t122 = true then (if a0_2 = a1_2 then (some true) else (some false)) else (some false)) = some r := H
    have A5 := Aside0.mk A50
    clear A50
    by_cases c6 : t122 = true
    · subst c6
      have H1 : (if a0_2 = a1_2 then (some true) else (some false)) = some r := by rw [if_pos rfl] at H; exact H
      clear H
      have H := H1
      clear H1
      by_cases c7 : a0_2 = a1_2
      · rw [if_pos c7] at H
        have c7b0 : (a0_2 == a1_2) = true := beq_iff_eq.mpr c7
        have c7b1 : (a0_2 != a1_2) = false := bne_eq_false_iff_eq.mpr c7
        clear c7
        obtain rfl := Option.some.inj H
        go_enter Try.func12, Try.ntmps12
        go_wp2_with (first | ((with_reducible refine gate_dst (N := 2) rfl ?_); refine box_event ?hg (N := 2) ?hd (cs := #[.slice A0_0 l0_0.length c0_0, .slice A0_1 l0_1.length c0_1, .int .i64 a0_2]) (t := 27) ?hr ?_; (case hd => rfl); (case hg => rfl); (case hr => first | (go_simp; done) | (go_simp; rfl)); intro gb119 hg w8 hbox hb; have n0_ := Aside0.mk (below_step (by repeat (first | (with_reducible first | exact HB.out | apply below_alloc | apply pw_below_drewN | apply below_drew1) | exact HB.out)) hb); have n1_ := Aside0.mk (hbox); have n2_ := Aside0.mk ((by rw [hg]; exact (below_size (by repeat (first | (with_reducible first | exact HB.out | apply below_alloc | apply pw_below_drewN | apply below_drew1) | exact HB.out))) : w.heap.size ≤ gb119)); have n3_ := Aside0.mk ((by rw [hg]; exact (below_size (by repeat (first | (with_reducible first | exact HB.out | apply below_alloc | apply pw_below_drewN | apply below_drew1) | exact HB.out))) : w.heap.size ≤ gb119)); clear HB; have HB := n0_; have BK119 := n1_; have GW119 := n2_; have GE119 := n3_; clear n0_ n1_ n2_ n3_; clear hb hbox hg) | ((with_reducible refine gate_dst (N := 3) rfl ?_); refine box_event ?hg (N := 3) ?hd (cs := #[.slice A1_0 l1_0.length c1_0, .slice A1_1 l1_1.length c1_1, .int .i64 a1_2]) (t := 27) ?hr ?_; (case hd => rfl); (case hg => rfl); (case hr => first | (go_simp; done) | (go_simp; rfl)); intro gb120 hg w9 hbox hb; have n0_ := Aside0.mk (blk_below (g := gb119) (o := .cells #[.slice A0_0 l0_0.length c0_0, .slice A0_1 l0_1.length c0_1, .int .i64 a0_2] 27 (0, 0)) (by (with_reducible repeat (first | refine blk_drewN ?_ _ | refine blk_drew ?_ | refine blk_alloc ?_ _)); exact BK119.out) hb); have n1_ := Aside0.mk (below_step (by repeat (first | (with_reducible first | exact HB.out | apply below_alloc | apply pw_below_drewN | apply below_drew1 | refine below_set ?_ GE119.out) | exact HB.out)) hb); have n2_ := Aside0.mk (hbox); have n3_ := Aside0.mk ((by rw [hg]; exact (below_size (by repeat (first | (with_reducible first | exact HB.out | apply below_alloc | apply pw_below_drewN | apply below_drew1 | refine below_set ?_ GE119.out) | exact HB.out))) : w.heap.size ≤ gb120)); have n4_ := Aside0.mk ((by rw [hg]; exact (below_size (by repeat (first | (with_reducible first | exact HB.out | apply below_alloc | apply pw_below_drewN | apply below_drew1 | refine below_set ?_ GE119.out) | exact HB.out))) : w.heap.size ≤ gb120)); have n5_ := Aside0.mk ((by rw [hg]; exact Nat.ne_of_lt (blk_lt (g := gb119) (o := .cells #[.slice A0_0 l0_0.length c0_0, .slice A0_1 l0_1.length c0_1, .int .i64 a0_2] 27 (0, 0)) (by (with_reducible repeat (first | refine blk_drewN ?_ _ | refine blk_drew ?_ | refine blk_alloc ?_ _)); exact BK119.out)) : gb119 ≠ gb120)); have n6_ := Aside0.mk ((by rw [hg]; exact Nat.ne_of_gt (blk_lt (g := gb119) (o := .cells #[.slice A0_0 l0_0.length c0_0, .slice A0_1 l0_1.length c0_1, .int .i64 a0_2] 27 (0, 0)) (by (with_reducible repeat (first | refine blk_drewN ?_ _ | refine blk_drew ?_ | refine blk_alloc ?_ _)); exact BK119.out)) : gb120 ≠ gb119)); clear BK119; clear HB; have BK119 := n0_; have HB := n1_; have BK120 := n2_; have GW120 := n3_; have GE120 := n4_; have NB119_120 := n5_; have NB120_119 := n6_; clear n0_ n1_ n2_ n3_ n4_ n5_ n6_; clear hb hbox hg; have hnb10 := NB119_120.out; have hnc10 := NB120_119.out; have hcz11_0 : w9.cell? ⟨gb119, 0, none⟩ = some (.slice A0_0 l0_0.length c0_0) := (blk_cell BK119.out 0).trans rfl; have hcz11_1 : w9.cell? ⟨gb119, 1, none⟩ = some (.slice A0_1 l0_1.length c0_1) := (blk_cell BK119.out 1).trans rfl; have hcz11_2 : w9.cell? ⟨gb119, 2, none⟩ = some (.int .i64 a0_2) := (blk_cell BK119.out 2).trans rfl; have hfz11_0 := blk_frozen BK119.out 0; have hfz11_1 := blk_frozen BK119.out 1; have hfz11_2 := blk_frozen BK119.out 2; have hcz12_0 : w9.cell? ⟨gb120, 0, none⟩ = some (.slice A1_0 l1_0.length c1_0) := (blk_cell BK120.out 0).trans rfl; have hcz12_1 : w9.cell? ⟨gb120, 1, none⟩ = some (.slice A1_1 l1_1.length c1_1) := (blk_cell BK120.out 1).trans rfl; have hcz12_2 : w9.cell? ⟨gb120, 2, none⟩ = some (.int .i64 a1_2) := (blk_cell BK120.out 2).trans rfl; have hfz12_0 := blk_frozen BK120.out 0; have hfz12_1 := blk_frozen BK120.out 1; have hfz12_2 := blk_frozen BK120.out 2) | ((with_reducible refine gate_callee (f := 55) rfl ?_); refine goesL_ (some 9) rfl rfl Try.func55 (by kernel_rfl) rfl #[.slice A0_0 l0_0.length c0_0, .slice A1_0 l1_0.length c1_0] rfl (by (try simp only [List.map_toArray, List.map_cons, List.map_nil]); first | done | rfl | (simp only [List.length_drop, List.length_take]; rfl)) ?_; (with_reducible refine (laws_eqVolS.calls k _ _ l0_0 _ _ l1_0 true _ ?side1 ?side2 ?side3 ?side4 A3.out).mono ?_); (case side1 => repeat (first | exact (Kd.C_below HR0_0.out HB.out) | (with_reducible refine Kd.C_alloc ?_ _) | (with_reducible refine Kd.C_drewN ?_ _) | (with_reducible refine Kd.C_drew ?_))); (case side2 => exact HC0_0.out); (case side3 => repeat (first | exact (Kd.C_below HR1_0.out HB.out) | (with_reducible refine Kd.C_alloc ?_ _) | (with_reducible refine Kd.C_drewN ?_ _) | (with_reducible refine Kd.C_drew ?_))); (case side4 => exact HC1_0.out); rintro e w13 ⟨rfl, hb⟩; refine ⟨_, rfl, ?_⟩; have n0_ := Aside0.mk (blk_below (g := gb119) (o := .cells #[.slice A0_0 l0_0.length c0_0, .slice A0_1 l0_1.length c0_1, .int .i64 a0_2] 27 (0, 0)) (by (with_reducible repeat (first | refine blk_drewN ?_ _ | refine blk_drew ?_ | refine blk_alloc ?_ _)); exact BK119.out) hb); have n1_ := Aside0.mk (blk_below (g := gb120) (o := .cells #[.slice A1_0 l1_0.length c1_0, .slice A1_1 l1_1.length c1_1, .int .i64 a1_2] 27 (0, 0)) (by (with_reducible repeat (first | refine blk_drewN ?_ _ | refine blk_drew ?_ | refine blk_alloc ?_ _)); exact BK120.out) hb); have n2_ := Aside0.mk (below_step (by repeat (first | (with_reducible first | exact HB.out | apply below_alloc | apply pw_below_drewN | apply below_drew1 | refine below_set ?_ GE119.out | refine below_set ?_ GE120.out) | exact HB.out)) hb); clear BK119; clear BK120; clear HB; have BK119 := n0_; have BK120 := n1_; have HB := n2_; clear n0_ n1_ n2_; (try clear hb); (try clear hb2); (try clear hk); (try clear hi); have hcz14_0 : w13.cell? ⟨gb119, 0, none⟩ = some (.slice A0_0 l0_0.length c0_0) := (blk_cell BK119.out 0).trans rfl; have hcz14_1 : w13.cell? ⟨gb119, 1, none⟩ = some (.slice A0_1 l0_1.length c0_1) := (blk_cell BK119.out 1).trans rfl; have hcz14_2 : w13.cell? ⟨gb119, 2, none⟩ = some (.int .i64 a0_2) := (blk_cell BK119.out 2).trans rfl; have hfz14_0 := blk_frozen BK119.out 0; have hfz14_1 := blk_frozen BK119.out 1; have hfz14_2 := blk_frozen BK119.out 2; have hcz15_0 : w13.cell? ⟨gb120, 0, none⟩ = some (.slice A1_0 l1_0.length c1_0) := (blk_cell BK120.out 0).trans rfl; have hcz15_1 : w13.cell? ⟨gb120, 1, none⟩ = some (.slice A1_1 l1_1.length c1_1) := (blk_cell BK120.out 1).trans rfl; have hcz15_2 : w13.cell? ⟨gb120, 2, none⟩ = some (.int .i64 a1_2) := (blk_cell BK120.out 2).trans rfl; have hfz15_0 := blk_frozen BK120.out 0; have hfz15_1 := blk_frozen BK120.out 1; have hfz15_2 := blk_frozen BK120.out 2) | ((with_reducible refine gate_callee (f := 27) rfl ?_); refine goesL_ (some 15) rfl rfl Try.func27 (by kernel_rfl) rfl #[.agg #[.slice A0_1 l0_1.length c0_1], .agg #[.slice A1_1 l1_1.length c1_1]] rfl (by (try simp only [List.map_toArray, List.map_cons, List.map_nil]); first | done | rfl | (simp only [List.length_drop, List.length_take]; rfl)) ?_; (with_reducible refine (laws_eqArena.calls k _ _ l0_1 _ _ l1_1 true _ ?side1 ?side2 ?side3 ?side4 A5.out).mono ?_); (case side1 => repeat (first | exact (Kd.C_below HR0_1.out HB.out) | (with_reducible refine Kd.C_alloc ?_ _) | (with_reducible refine Kd.C_drewN ?_ _) | (with_reducible refine Kd.C_drew ?_))); (case side2 => exact HC0_1.out); (case side3 => repeat (first | exact (Kd.C_below HR1_1.out HB.out) | (with_reducible refine Kd.C_alloc ?_ _) | (with_reducible refine Kd.C_drewN ?_ _) | (with_reducible refine Kd.C_drew ?_))); (case side4 => exact HC1_1.out); rintro e w16 ⟨rfl, hb⟩; refine ⟨_, rfl, ?_⟩; have n0_ := Aside0.mk (blk_below (g := gb119) (o := .cells #[.slice A0_0 l0_0.length c0_0, .slice A0_1 l0_1.length c0_1, .int .i64 a0_2] 27 (0, 0)) (by (with_reducible repeat (first | refine blk_drewN ?_ _ | refine blk_drew ?_ | refine blk_alloc ?_ _)); exact BK119.out) hb); have n1_ := Aside0.mk (blk_below (g := gb120) (o := .cells #[.slice A1_0 l1_0.length c1_0, .slice A1_1 l1_1.length c1_1, .int .i64 a1_2] 27 (0, 0)) (by (with_reducible repeat (first | refine blk_drewN ?_ _ | refine blk_drew ?_ | refine blk_alloc ?_ _)); exact BK120.out) hb); have n2_ := Aside0.mk (below_step (by repeat (first | (with_reducible first | exact HB.out | apply below_alloc | apply pw_below_drewN | apply below_drew1 | refine below_set ?_ GE119.out | refine below_set ?_ GE120.out) | exact HB.out)) hb); clear BK119; clear BK120; clear HB; have BK119 := n0_; have BK120 := n1_; have HB := n2_; clear n0_ n1_ n2_; (try clear hb); (try clear hb2); (try clear hk); (try clear hi); have hcz17_0 : w16.cell? ⟨gb119, 0, none⟩ = some (.slice A0_0 l0_0.length c0_0) := (blk_cell BK119.out 0).trans rfl; have hcz17_1 : w16.cell? ⟨gb119, 1, none⟩ = some (.slice A0_1 l0_1.length c0_1) := (blk_cell BK119.out 1).trans rfl; have hcz17_2 : w16.cell? ⟨gb119, 2, none⟩ = some (.int .i64 a0_2) := (blk_cell BK119.out 2).trans rfl; have hfz17_0 := blk_frozen BK119.out 0; have hfz17_1 := blk_frozen BK119.out 1; have hfz17_2 := blk_frozen BK119.out 2; have hcz18_0 : w16.cell? ⟨gb120, 0, none⟩ = some (.slice A1_0 l1_0.length c1_0) := (blk_cell BK120.out 0).trans rfl; have hcz18_1 : w16.cell? ⟨gb120, 1, none⟩ = some (.slice A1_1 l1_1.length c1_1) := (blk_cell BK120.out 1).trans rfl; have hcz18_2 : w16.cell? ⟨gb120, 2, none⟩ = some (.int .i64 a1_2) := (blk_cell BK120.out 2).trans rfl; have hfz18_0 := blk_frozen BK120.out 0; have hfz18_1 := blk_frozen BK120.out 1; have hfz18_2 := blk_frozen BK120.out 2))
        go_ret
        exact ⟨by first | rfl | (simp [errW_none, errW_some] <;> rfl) | (simp [*, errW_none, errW_some] <;> rfl), by repeat (first | (with_reducible first | exact HB.out | apply below_alloc | apply pw_below_drewN | apply below_drew1 | refine below_set ?_ GE119.out | refine below_set ?_ GE120.out) | exact HB.out)⟩
      · rw [if_neg c7] at H
        have c7b0 : (a0_2 == a1_2) = false := beq_eq_false_iff_ne.mpr c7
        have c7b1 : (a0_2 != a1_2) = true := bne_iff_ne.mpr c7
        obtain rfl := Option.some.inj H
        go_enter Try.func12, Try.ntmps12
        go_wp2_with (first | ((with_reducible refine gate_dst (N := 2) rfl ?_); refine box_event ?hg (N := 2) ?hd (cs := #[.slice A0_0 l0_0.length c0_0, .slice A0_1 l0_1.length c0_1, .int .i64 a0_2]) (t := 27) ?hr ?_; (case hd => rfl); (case hg => rfl); (case hr => first | (go_simp; done) | (go_simp; rfl)); intro gb119 hg w19 hbox hb; have n0_ := Aside0.mk (below_step (by repeat (first | (with_reducible first | exact HB.out | apply below_alloc | apply pw_below_drewN | apply below_drew1) | exact HB.out)) hb); have n1_ := Aside0.mk (hbox); have n2_ := Aside0.mk ((by rw [hg]; exact (below_size (by repeat (first | (with_reducible first | exact HB.out | apply below_alloc | apply pw_below_drewN | apply below_drew1) | exact HB.out))) : w.heap.size ≤ gb119)); have n3_ := Aside0.mk ((by rw [hg]; exact (below_size (by repeat (first | (with_reducible first | exact HB.out | apply below_alloc | apply pw_below_drewN | apply below_drew1) | exact HB.out))) : w.heap.size ≤ gb119)); clear HB; have HB := n0_; have BK119 := n1_; have GW119 := n2_; have GE119 := n3_; clear n0_ n1_ n2_ n3_; clear hb hbox hg) | ((with_reducible refine gate_dst (N := 3) rfl ?_); refine box_event ?hg (N := 3) ?hd (cs := #[.slice A1_0 l1_0.length c1_0, .slice A1_1 l1_1.length c1_1, .int .i64 a1_2]) (t := 27) ?hr ?_; (case hd => rfl); (case hg => rfl); (case hr => first | (go_simp; done) | (go_simp; rfl)); intro gb120 hg w20 hbox hb; have n0_ := Aside0.mk (blk_below (g := gb119) (o := .cells #[.slice A0_0 l0_0.length c0_0, .slice A0_1 l0_1.length c0_1, .int .i64 a0_2] 27 (0, 0)) (by (with_reducible repeat (first | refine blk_drewN ?_ _ | refine blk_drew ?_ | refine blk_alloc ?_ _)); exact BK119.out) hb); have n1_ := Aside0.mk (below_step (by repeat (first | (with_reducible first | exact HB.out | apply below_alloc | apply pw_below_drewN | apply below_drew1 | refine below_set ?_ GE119.out) | exact HB.out)) hb); have n2_ := Aside0.mk (hbox); have n3_ := Aside0.mk ((by rw [hg]; exact (below_size (by repeat (first | (with_reducible first | exact HB.out | apply below_alloc | apply pw_below_drewN | apply below_drew1 | refine below_set ?_ GE119.out) | exact HB.out))) : w.heap.size ≤ gb120)); have n4_ := Aside0.mk ((by rw [hg]; exact (below_size (by repeat (first | (with_reducible first | exact HB.out | apply below_alloc | apply pw_below_drewN | apply below_drew1 | refine below_set ?_ GE119.out) | exact HB.out))) : w.heap.size ≤ gb120)); have n5_ := Aside0.mk ((by rw [hg]; exact Nat.ne_of_lt (blk_lt (g := gb119) (o := .cells #[.slice A0_0 l0_0.length c0_0, .slice A0_1 l0_1.length c0_1, .int .i64 a0_2] 27 (0, 0)) (by (with_reducible repeat (first | refine blk_drewN ?_ _ | refine blk_drew ?_ | refine blk_alloc ?_ _)); exact BK119.out)) : gb119 ≠ gb120)); have n6_ := Aside0.mk ((by rw [hg]; exact Nat.ne_of_gt (blk_lt (g := gb119) (o := .cells #[.slice A0_0 l0_0.length c0_0, .slice A0_1 l0_1.length c0_1, .int .i64 a0_2] 27 (0, 0)) (by (with_reducible repeat (first | refine blk_drewN ?_ _ | refine blk_drew ?_ | refine blk_alloc ?_ _)); exact BK119.out)) : gb120 ≠ gb119)); clear BK119; clear HB; have BK119 := n0_; have HB := n1_; have BK120 := n2_; have GW120 := n3_; have GE120 := n4_; have NB119_120 := n5_; have NB120_119 := n6_; clear n0_ n1_ n2_ n3_ n4_ n5_ n6_; clear hb hbox hg; have hnb21 := NB119_120.out; have hnc21 := NB120_119.out; have hcz22_0 : w20.cell? ⟨gb119, 0, none⟩ = some (.slice A0_0 l0_0.length c0_0) := (blk_cell BK119.out 0).trans rfl; have hcz22_1 : w20.cell? ⟨gb119, 1, none⟩ = some (.slice A0_1 l0_1.length c0_1) := (blk_cell BK119.out 1).trans rfl; have hcz22_2 : w20.cell? ⟨gb119, 2, none⟩ = some (.int .i64 a0_2) := (blk_cell BK119.out 2).trans rfl; have hfz22_0 := blk_frozen BK119.out 0; have hfz22_1 := blk_frozen BK119.out 1; have hfz22_2 := blk_frozen BK119.out 2; have hcz23_0 : w20.cell? ⟨gb120, 0, none⟩ = some (.slice A1_0 l1_0.length c1_0) := (blk_cell BK120.out 0).trans rfl; have hcz23_1 : w20.cell? ⟨gb120, 1, none⟩ = some (.slice A1_1 l1_1.length c1_1) := (blk_cell BK120.out 1).trans rfl; have hcz23_2 : w20.cell? ⟨gb120, 2, none⟩ = some (.int .i64 a1_2) := (blk_cell BK120.out 2).trans rfl; have hfz23_0 := blk_frozen BK120.out 0; have hfz23_1 := blk_frozen BK120.out 1; have hfz23_2 := blk_frozen BK120.out 2) | ((with_reducible refine gate_callee (f := 55) rfl ?_); refine goesL_ (some 9) rfl rfl Try.func55 (by kernel_rfl) rfl #[.slice A0_0 l0_0.length c0_0, .slice A1_0 l1_0.length c1_0] rfl (by (try simp only [List.map_toArray, List.map_cons, List.map_nil]); first | done | rfl | (simp only [List.length_drop, List.length_take]; rfl)) ?_; (with_reducible refine (laws_eqVolS.calls k _ _ l0_0 _ _ l1_0 true _ ?side1 ?side2 ?side3 ?side4 A3.out).mono ?_); (case side1 => repeat (first | exact (Kd.C_below HR0_0.out HB.out) | (with_reducible refine Kd.C_alloc ?_ _) | (with_reducible refine Kd.C_drewN ?_ _) | (with_reducible refine Kd.C_drew ?_))); (case side2 => exact HC0_0.out); (case side3 => repeat (first | exact (Kd.C_below HR1_0.out HB.out) | (with_reducible refine Kd.C_alloc ?_ _) | (with_reducible refine Kd.C_drewN ?_ _) | (with_reducible refine Kd.C_drew ?_))); (case side4 => exact HC1_0.out); rintro e w24 ⟨rfl, hb⟩; refine ⟨_, rfl, ?_⟩; have n0_ := Aside0.mk (blk_below (g := gb119) (o := .cells #[.slice A0_0 l0_0.length c0_0, .slice A0_1 l0_1.length c0_1, .int .i64 a0_2] 27 (0, 0)) (by (with_reducible repeat (first | refine blk_drewN ?_ _ | refine blk_drew ?_ | refine blk_alloc ?_ _)); exact BK119.out) hb); have n1_ := Aside0.mk (blk_below (g := gb120) (o := .cells #[.slice A1_0 l1_0.length c1_0, .slice A1_1 l1_1.length c1_1, .int .i64 a1_2] 27 (0, 0)) (by (with_reducible repeat (first | refine blk_drewN ?_ _ | refine blk_drew ?_ | refine blk_alloc ?_ _)); exact BK120.out) hb); have n2_ := Aside0.mk (below_step (by repeat (first | (with_reducible first | exact HB.out | apply below_alloc | apply pw_below_drewN | apply below_drew1 | refine below_set ?_ GE119.out | refine below_set ?_ GE120.out) | exact HB.out)) hb); clear BK119; clear BK120; clear HB; have BK119 := n0_; have BK120 := n1_; have HB := n2_; clear n0_ n1_ n2_; (try clear hb); (try clear hb2); (try clear hk); (try clear hi); have hcz25_0 : w24.cell? ⟨gb119, 0, none⟩ = some (.slice A0_0 l0_0.length c0_0) := (blk_cell BK119.out 0).trans rfl; have hcz25_1 : w24.cell? ⟨gb119, 1, none⟩ = some (.slice A0_1 l0_1.length c0_1) := (blk_cell BK119.out 1).trans rfl; have hcz25_2 : w24.cell? ⟨gb119, 2, none⟩ = some (.int .i64 a0_2) := (blk_cell BK119.out 2).trans rfl; have hfz25_0 := blk_frozen BK119.out 0; have hfz25_1 := blk_frozen BK119.out 1; have hfz25_2 := blk_frozen BK119.out 2; have hcz26_0 : w24.cell? ⟨gb120, 0, none⟩ = some (.slice A1_0 l1_0.length c1_0) := (blk_cell BK120.out 0).trans rfl; have hcz26_1 : w24.cell? ⟨gb120, 1, none⟩ = some (.slice A1_1 l1_1.length c1_1) := (blk_cell BK120.out 1).trans rfl; have hcz26_2 : w24.cell? ⟨gb120, 2, none⟩ = some (.int .i64 a1_2) := (blk_cell BK120.out 2).trans rfl; have hfz26_0 := blk_frozen BK120.out 0; have hfz26_1 := blk_frozen BK120.out 1; have hfz26_2 := blk_frozen BK120.out 2) | ((with_reducible refine gate_callee (f := 27) rfl ?_); refine goesL_ (some 15) rfl rfl Try.func27 (by kernel_rfl) rfl #[.agg #[.slice A0_1 l0_1.length c0_1], .agg #[.slice A1_1 l1_1.length c1_1]] rfl (by (try simp only [List.map_toArray, List.map_cons, List.map_nil]); first | done | rfl | (simp only [List.length_drop, List.length_take]; rfl)) ?_; (with_reducible refine (laws_eqArena.calls k _ _ l0_1 _ _ l1_1 true _ ?side1 ?side2 ?side3 ?side4 A5.out).mono ?_); (case side1 => repeat (first | exact (Kd.C_below HR0_1.out HB.out) | (with_reducible refine Kd.C_alloc ?_ _) | (with_reducible refine Kd.C_drewN ?_ _) | (with_reducible refine Kd.C_drew ?_))); (case side2 => exact HC0_1.out); (case side3 => repeat (first | exact (Kd.C_below HR1_1.out HB.out) | (with_reducible refine Kd.C_alloc ?_ _) | (with_reducible refine Kd.C_drewN ?_ _) | (with_reducible refine Kd.C_drew ?_))); (case side4 => exact HC1_1.out); rintro e w27 ⟨rfl, hb⟩; refine ⟨_, rfl, ?_⟩; have n0_ := Aside0.mk (blk_below (g := gb119) (o := .cells #[.slice A0_0 l0_0.length c0_0, .slice A0_1 l0_1.length c0_1, .int .i64 a0_2] 27 (0, 0)) (by (with_reducible repeat (first | refine blk_drewN ?_ _ | refine blk_drew ?_ | refine blk_alloc ?_ _)); exact BK119.out) hb); have n1_ := Aside0.mk (blk_below (g := gb120) (o := .cells #[.slice A1_0 l1_0.length c1_0, .slice A1_1 l1_1.length c1_1, .int .i64 a1_2] 27 (0, 0)) (by (with_reducible repeat (first | refine blk_drewN ?_ _ | refine blk_drew ?_ | refine blk_alloc ?_ _)); exact BK120.out) hb); have n2_ := Aside0.mk (below_step (by repeat (first | (with_reducible first | exact HB.out | apply below_alloc | apply pw_below_drewN | apply below_drew1 | refine below_set ?_ GE119.out | refine below_set ?_ GE120.out) | exact HB.out)) hb); clear BK119; clear BK120; clear HB; have BK119 := n0_; have BK120 := n1_; have HB := n2_; clear n0_ n1_ n2_; (try clear hb); (try clear hb2); (try clear hk); (try clear hi); have hcz28_0 : w27.cell? ⟨gb119, 0, none⟩ = some (.slice A0_0 l0_0.length c0_0) := (blk_cell BK119.out 0).trans rfl; have hcz28_1 : w27.cell? ⟨gb119, 1, none⟩ = some (.slice A0_1 l0_1.length c0_1) := (blk_cell BK119.out 1).trans rfl; have hcz28_2 : w27.cell? ⟨gb119, 2, none⟩ = some (.int .i64 a0_2) := (blk_cell BK119.out 2).trans rfl; have hfz28_0 := blk_frozen BK119.out 0; have hfz28_1 := blk_frozen BK119.out 1; have hfz28_2 := blk_frozen BK119.out 2; have hcz29_0 : w27.cell? ⟨gb120, 0, none⟩ = some (.slice A1_0 l1_0.length c1_0) := (blk_cell BK120.out 0).trans rfl; have hcz29_1 : w27.cell? ⟨gb120, 1, none⟩ = some (.slice A1_1 l1_1.length c1_1) := (blk_cell BK120.out 1).trans rfl; have hcz29_2 : w27.cell? ⟨gb120, 2, none⟩ = some (.int .i64 a1_2) := (blk_cell BK120.out 2).trans rfl; have hfz29_0 := blk_frozen BK120.out 0; have hfz29_1 := blk_frozen BK120.out 1; have hfz29_2 := blk_frozen BK120.out 2))
        go_ret
        exact ⟨by first | rfl | (simp [errW_none, errW_some] <;> rfl) | (simp [*, errW_none, errW_some] <;> rfl), by repeat (first | (with_reducible first | exact HB.out | apply below_alloc | apply pw_below_drewN | apply below_drew1 | refine below_set ?_ GE119.out | refine below_set ?_ GE120.out) | exact HB.out)⟩
    · replace c6 := Bool.eq_false_iff.mpr c6
      subst c6
      have H1 : (some false) = some r := by rw [if_neg (show ¬ (false = true) by decide)] at H; exact H
      clear H
      have H := H1
      clear H1
      obtain rfl := Option.some.inj H
      go_enter Try.func12, Try.ntmps12
      go_wp2_with (first | ((with_reducible refine gate_dst (N := 2) rfl ?_); refine box_event ?hg (N := 2) ?hd (cs := #[.slice A0_0 l0_0.length c0_0, .slice A0_1 l0_1.length c0_1, .int .i64 a0_2]) (t := 27) ?hr ?_; (case hd => rfl); (case hg => rfl); (case hr => first | (go_simp; done) | (go_simp; rfl)); intro gb119 hg w30 hbox hb; have n0_ := Aside0.mk (below_step (by repeat (first | (with_reducible first | exact HB.out | apply below_alloc | apply pw_below_drewN | apply below_drew1) | exact HB.out)) hb); have n1_ := Aside0.mk (hbox); have n2_ := Aside0.mk ((by rw [hg]; exact (below_size (by repeat (first | (with_reducible first | exact HB.out | apply below_alloc | apply pw_below_drewN | apply below_drew1) | exact HB.out))) : w.heap.size ≤ gb119)); have n3_ := Aside0.mk ((by rw [hg]; exact (below_size (by repeat (first | (with_reducible first | exact HB.out | apply below_alloc | apply pw_below_drewN | apply below_drew1) | exact HB.out))) : w.heap.size ≤ gb119)); clear HB; have HB := n0_; have BK119 := n1_; have GW119 := n2_; have GE119 := n3_; clear n0_ n1_ n2_ n3_; clear hb hbox hg) | ((with_reducible refine gate_dst (N := 3) rfl ?_); refine box_event ?hg (N := 3) ?hd (cs := #[.slice A1_0 l1_0.length c1_0, .slice A1_1 l1_1.length c1_1, .int .i64 a1_2]) (t := 27) ?hr ?_; (case hd => rfl); (case hg => rfl); (case hr => first | (go_simp; done) | (go_simp; rfl)); intro gb120 hg w31 hbox hb; have n0_ := Aside0.mk (blk_below (g := gb119) (o := .cells #[.slice A0_0 l0_0.length c0_0, .slice A0_1 l0_1.length c0_1, .int .i64 a0_2] 27 (0, 0)) (by (with_reducible repeat (first | refine blk_drewN ?_ _ | refine blk_drew ?_ | refine blk_alloc ?_ _)); exact BK119.out) hb); have n1_ := Aside0.mk (below_step (by repeat (first | (with_reducible first | exact HB.out | apply below_alloc | apply pw_below_drewN | apply below_drew1 | refine below_set ?_ GE119.out) | exact HB.out)) hb); have n2_ := Aside0.mk (hbox); have n3_ := Aside0.mk ((by rw [hg]; exact (below_size (by repeat (first | (with_reducible first | exact HB.out | apply below_alloc | apply pw_below_drewN | apply below_drew1 | refine below_set ?_ GE119.out) | exact HB.out))) : w.heap.size ≤ gb120)); have n4_ := Aside0.mk ((by rw [hg]; exact (below_size (by repeat (first | (with_reducible first | exact HB.out | apply below_alloc | apply pw_below_drewN | apply below_drew1 | refine below_set ?_ GE119.out) | exact HB.out))) : w.heap.size ≤ gb120)); have n5_ := Aside0.mk ((by rw [hg]; exact Nat.ne_of_lt (blk_lt (g := gb119) (o := .cells #[.slice A0_0 l0_0.length c0_0, .slice A0_1 l0_1.length c0_1, .int .i64 a0_2] 27 (0, 0)) (by (with_reducible repeat (first | refine blk_drewN ?_ _ | refine blk_drew ?_ | refine blk_alloc ?_ _)); exact BK119.out)) : gb119 ≠ gb120)); have n6_ := Aside0.mk ((by rw [hg]; exact Nat.ne_of_gt (blk_lt (g := gb119) (o := .cells #[.slice A0_0 l0_0.length c0_0, .slice A0_1 l0_1.length c0_1, .int .i64 a0_2] 27 (0, 0)) (by (with_reducible repeat (first | refine blk_drewN ?_ _ | refine blk_drew ?_ | refine blk_alloc ?_ _)); exact BK119.out)) : gb120 ≠ gb119)); clear BK119; clear HB; have BK119 := n0_; have HB := n1_; have BK120 := n2_; have GW120 := n3_; have GE120 := n4_; have NB119_120 := n5_; have NB120_119 := n6_; clear n0_ n1_ n2_ n3_ n4_ n5_ n6_; clear hb hbox hg; have hnb32 := NB119_120.out; have hnc32 := NB120_119.out; have hcz33_0 : w31.cell? ⟨gb119, 0, none⟩ = some (.slice A0_0 l0_0.length c0_0) := (blk_cell BK119.out 0).trans rfl; have hcz33_1 : w31.cell? ⟨gb119, 1, none⟩ = some (.slice A0_1 l0_1.length c0_1) := (blk_cell BK119.out 1).trans rfl; have hcz33_2 : w31.cell? ⟨gb119, 2, none⟩ = some (.int .i64 a0_2) := (blk_cell BK119.out 2).trans rfl; have hfz33_0 := blk_frozen BK119.out 0; have hfz33_1 := blk_frozen BK119.out 1; have hfz33_2 := blk_frozen BK119.out 2; have hcz34_0 : w31.cell? ⟨gb120, 0, none⟩ = some (.slice A1_0 l1_0.length c1_0) := (blk_cell BK120.out 0).trans rfl; have hcz34_1 : w31.cell? ⟨gb120, 1, none⟩ = some (.slice A1_1 l1_1.length c1_1) := (blk_cell BK120.out 1).trans rfl; have hcz34_2 : w31.cell? ⟨gb120, 2, none⟩ = some (.int .i64 a1_2) := (blk_cell BK120.out 2).trans rfl; have hfz34_0 := blk_frozen BK120.out 0; have hfz34_1 := blk_frozen BK120.out 1; have hfz34_2 := blk_frozen BK120.out 2) | ((with_reducible refine gate_callee (f := 55) rfl ?_); refine goesL_ (some 9) rfl rfl Try.func55 (by kernel_rfl) rfl #[.slice A0_0 l0_0.length c0_0, .slice A1_0 l1_0.length c1_0] rfl (by (try simp only [List.map_toArray, List.map_cons, List.map_nil]); first | done | rfl | (simp only [List.length_drop, List.length_take]; rfl)) ?_; (with_reducible refine (laws_eqVolS.calls k _ _ l0_0 _ _ l1_0 true _ ?side1 ?side2 ?side3 ?side4 A3.out).mono ?_); (case side1 => repeat (first | exact (Kd.C_below HR0_0.out HB.out) | (with_reducible refine Kd.C_alloc ?_ _) | (with_reducible refine Kd.C_drewN ?_ _) | (with_reducible refine Kd.C_drew ?_))); (case side2 => exact HC0_0.out); (case side3 => repeat (first | exact (Kd.C_below HR1_0.out HB.out) | (with_reducible refine Kd.C_alloc ?_ _) | (with_reducible refine Kd.C_drewN ?_ _) | (with_reducible refine Kd.C_drew ?_))); (case side4 => exact HC1_0.out); rintro e w35 ⟨rfl, hb⟩; refine ⟨_, rfl, ?_⟩; have n0_ := Aside0.mk (blk_below (g := gb119) (o := .cells #[.slice A0_0 l0_0.length c0_0, .slice A0_1 l0_1.length c0_1, .int .i64 a0_2] 27 (0, 0)) (by (with_reducible repeat (first | refine blk_drewN ?_ _ | refine blk_drew ?_ | refine blk_alloc ?_ _)); exact BK119.out) hb); have n1_ := Aside0.mk (blk_below (g := gb120) (o := .cells #[.slice A1_0 l1_0.length c1_0, .slice A1_1 l1_1.length c1_1, .int .i64 a1_2] 27 (0, 0)) (by (with_reducible repeat (first | refine blk_drewN ?_ _ | refine blk_drew ?_ | refine blk_alloc ?_ _)); exact BK120.out) hb); have n2_ := Aside0.mk (below_step (by repeat (first | (with_reducible first | exact HB.out | apply below_alloc | apply pw_below_drewN | apply below_drew1 | refine below_set ?_ GE119.out | refine below_set ?_ GE120.out) | exact HB.out)) hb); clear BK119; clear BK120; clear HB; have BK119 := n0_; have BK120 := n1_; have HB := n2_; clear n0_ n1_ n2_; (try clear hb); (try clear hb2); (try clear hk); (try clear hi); have hcz36_0 : w35.cell? ⟨gb119, 0, none⟩ = some (.slice A0_0 l0_0.length c0_0) := (blk_cell BK119.out 0).trans rfl; have hcz36_1 : w35.cell? ⟨gb119, 1, none⟩ = some (.slice A0_1 l0_1.length c0_1) := (blk_cell BK119.out 1).trans rfl; have hcz36_2 : w35.cell? ⟨gb119, 2, none⟩ = some (.int .i64 a0_2) := (blk_cell BK119.out 2).trans rfl; have hfz36_0 := blk_frozen BK119.out 0; have hfz36_1 := blk_frozen BK119.out 1; have hfz36_2 := blk_frozen BK119.out 2; have hcz37_0 : w35.cell? ⟨gb120, 0, none⟩ = some (.slice A1_0 l1_0.length c1_0) := (blk_cell BK120.out 0).trans rfl; have hcz37_1 : w35.cell? ⟨gb120, 1, none⟩ = some (.slice A1_1 l1_1.length c1_1) := (blk_cell BK120.out 1).trans rfl; have hcz37_2 : w35.cell? ⟨gb120, 2, none⟩ = some (.int .i64 a1_2) := (blk_cell BK120.out 2).trans rfl; have hfz37_0 := blk_frozen BK120.out 0; have hfz37_1 := blk_frozen BK120.out 1; have hfz37_2 := blk_frozen BK120.out 2) | ((with_reducible refine gate_callee (f := 27) rfl ?_); refine goesL_ (some 15) rfl rfl Try.func27 (by kernel_rfl) rfl #[.agg #[.slice A0_1 l0_1.length c0_1], .agg #[.slice A1_1 l1_1.length c1_1]] rfl (by (try simp only [List.map_toArray, List.map_cons, List.map_nil]); first | done | rfl | (simp only [List.length_drop, List.length_take]; rfl)) ?_; (with_reducible refine (laws_eqArena.calls k _ _ l0_1 _ _ l1_1 false _ ?side1 ?side2 ?side3 ?side4 A5.out).mono ?_); (case side1 => repeat (first | exact (Kd.C_below HR0_1.out HB.out) | (with_reducible refine Kd.C_alloc ?_ _) | (with_reducible refine Kd.C_drewN ?_ _) | (with_reducible refine Kd.C_drew ?_))); (case side2 => exact HC0_1.out); (case side3 => repeat (first | exact (Kd.C_below HR1_1.out HB.out) | (with_reducible refine Kd.C_alloc ?_ _) | (with_reducible refine Kd.C_drewN ?_ _) | (with_reducible refine Kd.C_drew ?_))); (case side4 => exact HC1_1.out); rintro e w38 ⟨rfl, hb⟩; refine ⟨_, rfl, ?_⟩; have n0_ := Aside0.mk (blk_below (g := gb119) (o := .cells #[.slice A0_0 l0_0.length c0_0, .slice A0_1 l0_1.length c0_1, .int .i64 a0_2] 27 (0, 0)) (by (with_reducible repeat (first | refine blk_drewN ?_ _ | refine blk_drew ?_ | refine blk_alloc ?_ _)); exact BK119.out) hb); have n1_ := Aside0.mk (blk_below (g := gb120) (o := .cells #[.slice A1_0 l1_0.length c1_0, .slice A1_1 l1_1.length c1_1, .int .i64 a1_2] 27 (0, 0)) (by (with_reducible repeat (first | refine blk_drewN ?_ _ | refine blk_drew ?_ | refine blk_alloc ?_ _)); exact BK120.out) hb); have n2_ := Aside0.mk (below_step (by repeat (first | (with_reducible first | exact HB.out | apply below_alloc | apply pw_below_drewN | apply below_drew1 | refine below_set ?_ GE119.out | refine below_set ?_ GE120.out) | exact HB.out)) hb); clear BK119; clear BK120; clear HB; have BK119 := n0_; have BK120 := n1_; have HB := n2_; clear n0_ n1_ n2_; (try clear hb); (try clear hb2); (try clear hk); (try clear hi)))
      go_ret
      exact ⟨by first | rfl | (simp [errW_none, errW_some] <;> rfl) | (simp [*, errW_none, errW_some] <;> rfl), by repeat (first | (with_reducible first | exact HB.out | apply below_alloc | apply pw_below_drewN | apply below_drew1 | refine below_set ?_ GE119.out | refine below_set ?_ GE120.out) | exact HB.out)⟩
  · replace c4 := Bool.eq_false_iff.mpr c4
    subst c4
    have H1 : (some false) = some r := by rw [if_neg (show ¬ (false = true) by decide)] at H; exact H
    clear H
    have H := H1
    clear H1
    obtain rfl := Option.some.inj H
    go_enter Try.func12, Try.ntmps12
    go_wp2_with (first | ((with_reducible refine gate_dst (N := 2) rfl ?_); refine box_event ?hg (N := 2) ?hd (cs := #[.slice A0_0 l0_0.length c0_0, .slice A0_1 l0_1.length c0_1, .int .i64 a0_2]) (t := 27) ?hr ?_; (case hd => rfl); (case hg => rfl); (case hr => first | (go_simp; done) | (go_simp; rfl)); intro gb119 hg w39 hbox hb; have n0_ := Aside0.mk (below_step (by repeat (first | (with_reducible first | exact HB.out | apply below_alloc | apply pw_below_drewN | apply below_drew1) | exact HB.out)) hb); have n1_ := Aside0.mk (hbox); have n2_ := Aside0.mk ((by rw [hg]; exact (below_size (by repeat (first | (with_reducible first | exact HB.out | apply below_alloc | apply pw_below_drewN | apply below_drew1) | exact HB.out))) : w.heap.size ≤ gb119)); have n3_ := Aside0.mk ((by rw [hg]; exact (below_size (by repeat (first | (with_reducible first | exact HB.out | apply below_alloc | apply pw_below_drewN | apply below_drew1) | exact HB.out))) : w.heap.size ≤ gb119)); clear HB; have HB := n0_; have BK119 := n1_; have GW119 := n2_; have GE119 := n3_; clear n0_ n1_ n2_ n3_; clear hb hbox hg) | ((with_reducible refine gate_dst (N := 3) rfl ?_); refine box_event ?hg (N := 3) ?hd (cs := #[.slice A1_0 l1_0.length c1_0, .slice A1_1 l1_1.length c1_1, .int .i64 a1_2]) (t := 27) ?hr ?_; (case hd => rfl); (case hg => rfl); (case hr => first | (go_simp; done) | (go_simp; rfl)); intro gb120 hg w40 hbox hb; have n0_ := Aside0.mk (blk_below (g := gb119) (o := .cells #[.slice A0_0 l0_0.length c0_0, .slice A0_1 l0_1.length c0_1, .int .i64 a0_2] 27 (0, 0)) (by (with_reducible repeat (first | refine blk_drewN ?_ _ | refine blk_drew ?_ | refine blk_alloc ?_ _)); exact BK119.out) hb); have n1_ := Aside0.mk (below_step (by repeat (first | (with_reducible first | exact HB.out | apply below_alloc | apply pw_below_drewN | apply below_drew1 | refine below_set ?_ GE119.out) | exact HB.out)) hb); have n2_ := Aside0.mk (hbox); have n3_ := Aside0.mk ((by rw [hg]; exact (below_size (by repeat (first | (with_reducible first | exact HB.out | apply below_alloc | apply pw_below_drewN | apply below_drew1 | refine below_set ?_ GE119.out) | exact HB.out))) : w.heap.size ≤ gb120)); have n4_ := Aside0.mk ((by rw [hg]; exact (below_size (by repeat (first | (with_reducible first | exact HB.out | apply below_alloc | apply pw_below_drewN | apply below_drew1 | refine below_set ?_ GE119.out) | exact HB.out))) : w.heap.size ≤ gb120)); have n5_ := Aside0.mk ((by rw [hg]; exact Nat.ne_of_lt (blk_lt (g := gb119) (o := .cells #[.slice A0_0 l0_0.length c0_0, .slice A0_1 l0_1.length c0_1, .int .i64 a0_2] 27 (0, 0)) (by (with_reducible repeat (first | refine blk_drewN ?_ _ | refine blk_drew ?_ | refine blk_alloc ?_ _)); exact BK119.out)) : gb119 ≠ gb120)); have n6_ := Aside0.mk ((by rw [hg]; exact Nat.ne_of_gt (blk_lt (g := gb119) (o := .cells #[.slice A0_0 l0_0.length c0_0, .slice A0_1 l0_1.length c0_1, .int .i64 a0_2] 27 (0, 0)) (by (with_reducible repeat (first | refine blk_drewN ?_ _ | refine blk_drew ?_ | refine blk_alloc ?_ _)); exact BK119.out)) : gb120 ≠ gb119)); clear BK119; clear HB; have BK119 := n0_; have HB := n1_; have BK120 := n2_; have GW120 := n3_; have GE120 := n4_; have NB119_120 := n5_; have NB120_119 := n6_; clear n0_ n1_ n2_ n3_ n4_ n5_ n6_; clear hb hbox hg; have hnb41 := NB119_120.out; have hnc41 := NB120_119.out; have hcz42_0 : w40.cell? ⟨gb119, 0, none⟩ = some (.slice A0_0 l0_0.length c0_0) := (blk_cell BK119.out 0).trans rfl; have hcz42_1 : w40.cell? ⟨gb119, 1, none⟩ = some (.slice A0_1 l0_1.length c0_1) := (blk_cell BK119.out 1).trans rfl; have hcz42_2 : w40.cell? ⟨gb119, 2, none⟩ = some (.int .i64 a0_2) := (blk_cell BK119.out 2).trans rfl; have hfz42_0 := blk_frozen BK119.out 0; have hfz42_1 := blk_frozen BK119.out 1; have hfz42_2 := blk_frozen BK119.out 2; have hcz43_0 : w40.cell? ⟨gb120, 0, none⟩ = some (.slice A1_0 l1_0.length c1_0) := (blk_cell BK120.out 0).trans rfl; have hcz43_1 : w40.cell? ⟨gb120, 1, none⟩ = some (.slice A1_1 l1_1.length c1_1) := (blk_cell BK120.out 1).trans rfl; have hcz43_2 : w40.cell? ⟨gb120, 2, none⟩ = some (.int .i64 a1_2) := (blk_cell BK120.out 2).trans rfl; have hfz43_0 := blk_frozen BK120.out 0; have hfz43_1 := blk_frozen BK120.out 1; have hfz43_2 := blk_frozen BK120.out 2) | ((with_reducible refine gate_callee (f := 55) rfl ?_); refine goesL_ (some 9) rfl rfl Try.func55 (by kernel_rfl) rfl #[.slice A0_0 l0_0.length c0_0, .slice A1_0 l1_0.length c1_0] rfl (by (try simp only [List.map_toArray, List.map_cons, List.map_nil]); first | done | rfl | (simp only [List.length_drop, List.length_take]; rfl)) ?_; (with_reducible refine (laws_eqVolS.calls k _ _ l0_0 _ _ l1_0 false _ ?side1 ?side2 ?side3 ?side4 A3.out).mono ?_); (case side1 => repeat (first | exact (Kd.C_below HR0_0.out HB.out) | (with_reducible refine Kd.C_alloc ?_ _) | (with_reducible refine Kd.C_drewN ?_ _) | (with_reducible refine Kd.C_drew ?_))); (case side2 => exact HC0_0.out); (case side3 => repeat (first | exact (Kd.C_below HR1_0.out HB.out) | (with_reducible refine Kd.C_alloc ?_ _) | (with_reducible refine Kd.C_drewN ?_ _) | (with_reducible refine Kd.C_drew ?_))); (case side4 => exact HC1_0.out); rintro e w44 ⟨rfl, hb⟩; refine ⟨_, rfl, ?_⟩; have n0_ := Aside0.mk (blk_below (g := gb119) (o := .cells #[.slice A0_0 l0_0.length c0_0, .slice A0_1 l0_1.length c0_1, .int .i64 a0_2] 27 (0, 0)) (by (with_reducible repeat (first | refine blk_drewN ?_ _ | refine blk_drew ?_ | refine blk_alloc ?_ _)); exact BK119.out) hb); have n1_ := Aside0.mk (blk_below (g := gb120) (o := .cells #[.slice A1_0 l1_0.length c1_0, .slice A1_1 l1_1.length c1_1, .int .i64 a1_2] 27 (0, 0)) (by (with_reducible repeat (first | refine blk_drewN ?_ _ | refine blk_drew ?_ | refine blk_alloc ?_ _)); exact BK120.out) hb); have n2_ := Aside0.mk (below_step (by repeat (first | (with_reducible first | exact HB.out | apply below_alloc | apply pw_below_drewN | apply below_drew1 | refine below_set ?_ GE119.out | refine below_set ?_ GE120.out) | exact HB.out)) hb); clear BK119; clear BK120; clear HB; have BK119 := n0_; have BK120 := n1_; have HB := n2_; clear n0_ n1_ n2_; (try clear hb); (try clear hb2); (try clear hk); (try clear hi)))
    go_ret
    exact ⟨by first | rfl | (simp [errW_none, errW_some] <;> rfl) | (simp [*, errW_none, errW_some] <;> rfl), by repeat (first | (with_reducible first | exact HB.out | apply below_alloc | apply pw_below_drewN | apply below_drew1 | refine below_set ?_ GE119.out | refine below_set ?_ GE120.out) | exact HB.out)⟩

end Go.Proofs.Ytijbejiajaiciaa.PC

/- laws_FnExactBaseRecs: the call comes to just what its Lean function answers; what it hands to what writes it lies apart from all else. Printed by a program of this session. -/
namespace Go.Proofs.Ytijbejiajaiciaa.PC
open Go.RowKit Go.Proofs.YtijbejiajaiciaaW.PrintWords Go.Proofs.YtijbejiajaiciaaW.PrintLast Go.Proofs.YtijbejiajaiciaaW.PrintMore
attribute [local go_sem] max2_int min2_int max_two min_two max_three min_three max_four min_four
set_option linter.unusedVariables false
set_option linter.unusedSimpArgs false
def laws_FnExactBaseRecs.f (k : Nat) (l0_0 : List (S153)) (l0_1 : List (S134)) (a0_2 : Int) : Option (Bool) := ((laws_szStore.f k l0_0 l0_1 a0_2 1048576).bind fun t3 => (if t3 < 0 then (some true) else ((laws_toStore.f k l0_0 l0_1 a0_2).bind fun b2 => ((spec_BaseRecs.f k b2.1 b2.2.1 b2.2.2).bind fun t11 => ((laws_toStore.f k l0_0 l0_1 a0_2).bind fun b4 => ((impl_BaseRecs.f k b4.1 b4.2.1 b4.2.2).bind fun t21 => ((laws_eqRecS.f k t21 t11).bind fun t24 => (if t24 = true then ((laws_toStore.f k l0_0 l0_1 a0_2).bind fun b8 => ((laws_eqStore.f k b4.1 b4.2.1 b4.2.2 b8.1 b8.2.1 b8.2.2).bind fun t32 => (if t32 = true then ((laws_markStore.f k b4.1 b4.2.1 b4.2.2 1).bind fun b11 => ((laws_eqRecS.f k t21 t11).bind fun t38 => (if t38 = true then (if b11.1 < 0 then (some false) else ((laws_markRecS.f k t21 1).bind fun b15 => ((laws_heldRecS.f k b15.2 1).bind fun t43 => (if t43 < 0 then (some false) else (if t43 = b15.1 then ((laws_toStore.f k l0_0 l0_1 a0_2).bind fun b19 => ((impl_BaseRecs.f k b19.1 b19.2.1 b19.2.2).bind fun t51 => ((laws_eqRecS.f k t51 t11).bind fun t54 => (if t54 = true then ((laws_heldRecS.f k b15.2 1).bind fun t56 => (if t56 < 0 then (some false) else (if t56 = b15.1 then (some true) else (some false)))) else (some false))))) else (some false)))))) else (some false)))) else (some false)))) else (some false)))))))))
theorem laws_FnExactBaseRecs.mono : ∀ a0 a1 a2 k, LeO (laws_FnExactBaseRecs.f k a0 a1 a2) (laws_FnExactBaseRecs.f (k + 1) a0 a1 a2) := by
  intro a0 a1 a2 k
  unfold laws_FnExactBaseRecs.f
  repeat' first
      | (with_reducible exact impl_BaseRecs.mono _ _ _ _)
      | (with_reducible exact laws_eqRecS.mono _ _ _)
      | (with_reducible exact laws_eqStore.mono _ _ _ _ _ _ _)
      | (with_reducible exact laws_heldRecS.mono _ _ _)
      | (with_reducible exact laws_markRecS.mono _ _ _)
      | (with_reducible exact laws_markStore.mono _ _ _ _ _)
      | (with_reducible exact laws_szStore.mono _ _ _ _ _)
      | (with_reducible exact laws_toStore.mono _ _ _ _)
      | (with_reducible exact spec_BaseRecs.mono _ _ _ _)
      | (with_reducible exact LeO.refl _)
      | (with_reducible exact LeO.none _)
      | (with_reducible refine LeO.ite ?_ ?_)
      | (with_reducible refine LeO.bind ?_ (fun _ => ?_))
      | exact impl_BaseRecs.mono _ _ _ _
      | exact laws_eqRecS.mono _ _ _
      | exact laws_eqStore.mono _ _ _ _ _ _ _
      | exact laws_heldRecS.mono _ _ _
      | exact laws_markRecS.mono _ _ _
      | exact laws_markStore.mono _ _ _ _ _
      | exact laws_szStore.mono _ _ _ _ _
      | exact laws_toStore.mono _ _ _ _
      | exact spec_BaseRecs.mono _ _ _ _
      | exact LeO.none _
      | refine LeO.ite ?_ ?_
      | refine LeO.bind ?_ (fun _ => ?_)
set_option maxHeartbeats 8000000 in
set_option maxRecDepth 100000 in
theorem laws_FnExactBaseRecs.calls (k : Nat) (A0_0 : Option Addr) (c0_0 : Nat) (l0_0 : List (S153)) (A0_1 : Option Addr) (c0_1 : Nat) (l0_1 : List (S134)) (a0_2 : Int) (r : Bool) (hT : Aside0 (r = true)) (w : World) (hr0_0 : Kd.C k153 w A0_0 l0_0.length l0_0) (hc0_0 : l0_0.length ≤ c0_0) (hr0_1 : Kd.C k134 w A0_1 l0_1.length l0_1) (hc0_1 : l0_1.length ≤ c0_1) (h : laws_FnExactBaseRecs.f k l0_0 l0_1 a0_2 = some r) :
    Calls Try.prog 8 #[.agg #[.slice A0_0 l0_0.length c0_0, .slice A0_1 l0_1.length c0_1, .int .i64 a0_2]] w fun e w' => e = .returned (.bool r) ∧ Below w.heap.size w w' := by
  have HR0_0 := Aside0.mk hr0_0
  have HC0_0 := Aside0.mk hc0_0
  clear hr0_0 hc0_0
  have HR0_1 := Aside0.mk hr0_1
  have HC0_1 := Aside0.mk hc0_1
  clear hr0_1 hc0_1
  have HB := Aside0.mk (Below.refl w.heap.size w)
  have HL := Aside0.mk (Nat.le_refl w.heap.size)
  have H : ((laws_szStore.f k l0_0 l0_1 a0_2 1048576).bind fun t3 => (if t3 < 0 then (some true) else ((laws_toStore.f k l0_0 l0_1 a0_2).bind fun b2 => ((spec_BaseRecs.f k b2.1 b2.2.1 b2.2.2).bind fun t11 => ((laws_toStore.f k l0_0 l0_1 a0_2).bind fun b4 => ((impl_BaseRecs.f k b4.1 b4.2.1 b4.2.2).bind fun t21 => ((laws_eqRecS.f k t21 t11).bind fun t24 => (if t24 = true then ((laws_toStore.f k l0_0 l0_1 a0_2).bind fun b8 => ((laws_eqStore.f k b4.1 b4.2.1 b4.2.2 b8.1 b8.2.1 b8.2.2).bind fun t32 => (if t32 = true then ((laws_markStore.f k b4.1 b4.2.1 b4.2.2 1).bind fun b11 => ((laws_eqRecS.f k t21 t11).bind fun t38 => (if t38 = true then (if b11.1 < 0 then (some false) else ((laws_markRecS.f k t21 1).bind fun b15 => ((laws_heldRecS.f k b15.2 1).bind fun t43 => (if t43 < 0 then (some false) else (if t43 = b15.1 then ((laws_toStore.f k l0_0 l0_1 a0_2).bind fun b19 => ((impl_BaseRecs.f k b19.1 b19.2.1 b19.2.2).bind fun t51 => ((laws_eqRecS.f k t51 t11).bind fun t54 => (if t54 = true then ((laws_heldRecS.f k b15.2 1).bind fun t56 => (if t56 < 0 then (some false) else (if t56 = b15.1 then (some true) else (some false)))) else (some false))))) else (some false)))))) else (some false)))) else (some false)))) else (some false))))))))) = some r := h
  clear h
  replace H := Option.bind_eq_some_iff.mp H
  obtain ⟨t3, Fa00, H⟩ := H
  replace H : (if t3 < 0 then (some true) else ((laws_toStore.f k l0_0 l0_1 a0_2).bind fun b2 => ((spec_BaseRecs.f k b2.1 b2.2.1 b2.2.2).bind fun t11 => ((laws_toStore.f k l0_0 l0_1 a0_2).bind fun b4 => ((impl_BaseRecs.f k b4.1 b4.2.1 b4.2.2).bind fun t21 => ((laws_eqRecS.f k t21 t11).bind fun t24 => (if t24 = true then ((laws_toStore.f k l0_0 l0_1 a0_2).bind fun b8 => ((laws_eqStore.f k b4.1 b4.2.1 b4.2.2 b8.1 b8.2.1 b8.2.2).bind fun t32 => (if t32 = true then ((laws_markStore.f k b4.1 b4.2.1 b4.2.2 1).bind fun b11 => ((laws_eqRecS.f k t21 t11).bind fun t38 => (if t38 = true then (if b11.1 < 0 then (some false) else ((laws_markRecS.f k t21 1).bind fun b15 => ((laws_heldRecS.f k b15.2 1).bind fun t43 => (if t43 < 0 then (some false) else (if t43 = b15.1 then ((laws_toStore.f k l0_0 l0_1 a0_2).bind fun b19 => ((impl_BaseRecs.f k b19.1 b19.2.1 b19.2.2).bind fun t51 => ((laws_eqRecS.f k t51 t11).bind fun t54 => (if t54 = true then ((laws_heldRecS.f k b15.2 1).bind fun t56 => (if t56 < 0 then (some false) else (if t56 = b15.1 then (some true) else (some false)))) else (some false))))) else (some false)))))) else (some false)))) else (some false)))) else (some false)))))))) = some r := H
  have Fa0 := Aside0.mk Fa00
  clear Fa00
  by_cases cd1 : t3 < 0
  · rw [if_pos cd1] at H
    have cd1b0 : decide (t3 < 0) = true := decide_eq_true cd1
    clear cd1
    obtain rfl := Option.some.inj H
    go_enter Try.func8, Try.ntmps8
    go_wp2_with (first | ((with_reducible refine gate_dst (N := 1) rfl ?_); refine box_event ?hg (N := 1) ?hd (cs := #[.slice A0_0 l0_0.length c0_0, .slice A0_1 l0_1.length c0_1, .int .i64 a0_2]) (t := 74) ?hr ?_; (case hd => rfl); (case hg => rfl); (case hr => first | (go_simp; done) | (go_simp; rfl)); intro gb1 hg w1 hbox hb; have GBK1 := Aside0.mk (show gb1 = w.heap.size ∧ gb1 < w1.heap.size from ⟨hg, blk_lt hbox⟩); have GW1 := Aside0.mk (show w.heap.size ≤ gb1 by have q_ := below_size HB.out; rw [hg]; exact q_); have BK1 := Aside0.mk hbox; replace HB := Aside0.mk (below_step HB.out hb); replace HL := Aside0.mk (And.intro HL.out (below_size hb)); clear hb hbox hg; have hcz2 : w1.cell? ⟨gb1, 0, none⟩ = some (.slice A0_0 l0_0.length c0_0) := (blk_cell BK1.out 0).trans rfl; have hfz3 := blk_frozen BK1.out 0; have hcz4 : w1.cell? ⟨gb1, 1, none⟩ = some (.slice A0_1 l0_1.length c0_1) := (blk_cell BK1.out 1).trans rfl; have hfz5 := blk_frozen BK1.out 1; have hcz6 : w1.cell? ⟨gb1, 2, none⟩ = some (.int .i64 a0_2) := (blk_cell BK1.out 2).trans rfl; have hfz7 := blk_frozen BK1.out 2) | ((with_reducible refine gate_callee (f := 42) rfl ?_); refine goesL_ (some 13) rfl rfl Try.func42 (by kernel_rfl) rfl #[.agg #[.slice A0_0 l0_0.length c0_0, .slice A0_1 l0_1.length c0_1, .int .i64 a0_2], .int .i64 1048576] rfl (by (try simp only [List.map_toArray, List.map_cons, List.map_nil]); first | done | rfl | (simp only [List.length_drop, List.length_take]; rfl)) ?_; (with_reducible refine (laws_szStore.calls k _ _ l0_0 _ _ l0_1 a0_2 1048576 t3 _ ?side1 ?side2 ?side3 ?side4 Fa0.out).mono ?_); (case side1 => exact Kd.C_below HR0_0.out HB.out); (case side2 => exact HC0_0.out); (case side3 => exact Kd.C_below HR0_1.out HB.out); (case side4 => exact HC0_1.out); rintro e w8 ⟨rfl, hb⟩; refine ⟨_, rfl, ?_⟩; replace BK1 := Aside0.mk (blk_below BK1.out hb); replace HB := Aside0.mk (below_step HB.out hb); replace HL := Aside0.mk (And.intro HL.out (below_size hb)); clear hb; clear hcz2 hfz3 hcz4 hfz5 hcz6 hfz7; have hcz9 : w8.cell? ⟨gb1, 0, none⟩ = some (.slice A0_0 l0_0.length c0_0) := (blk_cell BK1.out 0).trans rfl; have hfz10 := blk_frozen BK1.out 0; have hcz11 : w8.cell? ⟨gb1, 1, none⟩ = some (.slice A0_1 l0_1.length c0_1) := (blk_cell BK1.out 1).trans rfl; have hfz12 := blk_frozen BK1.out 1; have hcz13 : w8.cell? ⟨gb1, 2, none⟩ = some (.int .i64 a0_2) := (blk_cell BK1.out 2).trans rfl; have hfz14 := blk_frozen BK1.out 2))
    go_ret
    exact ⟨rfl, HB.out⟩
  · rw [if_neg cd1] at H
    have cd1b0 : decide (t3 < 0) = false := decide_eq_false cd1
    clear cd1
    replace H := Option.bind_eq_some_iff.mp H
    obtain ⟨⟨t5, t6, t7⟩, Fa20, H⟩ := H
    replace H : ((spec_BaseRecs.f k t5 t6 t7).bind fun t11 => ((laws_toStore.f k l0_0 l0_1 a0_2).bind fun b4 => ((impl_BaseRecs.f k b4.1 b4.2.1 b4.2.2).bind fun t21 => ((laws_eqRecS.f k t21 t11).bind fun t24 => (if t24 = true then ((laws_toStore.f k l0_0 l0_1 a0_2).bind fun b8 => ((laws_eqStore.f k b4.1 b4.2.1 b4.2.2 b8.1 b8.2.1 b8.2.2).bind fun t32 => (if t32 = true then ((laws_markStore.f k b4.1 b4.2.1 b4.2.2 1).bind fun b11 => ((laws_eqRecS.f k t21 t11).bind fun t38 => (if t38 = true then (if b11.1 < 0 then (some false) else ((laws_markRecS.f k t21 1).bind fun b15 => ((laws_heldRecS.f k b15.2 1).bind fun t43 => (if t43 < 0 then (some false) else (if t43 = b15.1 then ((laws_toStore.f k l0_0 l0_1 a0_2).bind fun b19 => ((impl_BaseRecs.f k b19.1 b19.2.1 b19.2.2).bind fun t51 => ((laws_eqRecS.f k t51 t11).bind fun t54 => (if t54 = true then ((laws_heldRecS.f k b15.2 1).bind fun t56 => (if t56 < 0 then (some false) else (if t56 = b15.1 then (some true) else (some false)))) else (some false))))) else (some false)))))) else (some false)))) else (some false)))) else (some false)))))) = some r := H
    have Fa2 := Aside0.mk Fa20
    clear Fa20
    replace H := Option.bind_eq_some_iff.mp H
    obtain ⟨t11, Fa30, H⟩ := H
    replace H : ((laws_toStore.f k l0_0 l0_1 a0_2).bind fun b4 => ((impl_BaseRecs.f k b4.1 b4.2.1 b4.2.2).bind fun t21 => ((laws_eqRecS.f k t21 t11).bind fun t24 => (if t24 = true then ((laws_toStore.f k l0_0 l0_1 a0_2).bind fun b8 => ((laws_eqStore.f k b4.1 b4.2.1 b4.2.2 b8.1 b8.2.1 b8.2.2).bind fun t32 => (if t32 = true then ((laws_markStore.f k b4.1 b4.2.1 b4.2.2 1).bind fun b11 => ((laws_eqRecS.f k t21 t11).bind fun t38 => (if t38 = true then (if b11.1 < 0 then (some false) else ((laws_markRecS.f k t21 1).bind fun b15 => ((laws_heldRecS.f k b15.2 1).bind fun t43 => (if t43 < 0 then (some false) else (if t43 = b15.1 then ((laws_toStore.f k l0_0 l0_1 a0_2).bind fun b19 => ((impl_BaseRecs.f k b19.1 b19.2.1 b19.2.2).bind fun t51 => ((laws_eqRecS.f k t51 t11).bind fun t54 => (if t54 = true then ((laws_heldRecS.f k b15.2 1).bind fun t56 => (if t56 < 0 then (some false) else (if t56 = b15.1 then (some true) else (some false)))) else (some false))))) else (some false)))))) else (some false)))) else (some false)))) else (some false))))) = some r := H
    have Fa3 := Aside0.mk Fa30
    clear Fa30
    replace H := Option.bind_eq_some_iff.mp H
    obtain ⟨⟨t14, t15, t16⟩, Fa40, H⟩ := H
    replace H : ((impl_BaseRecs.f k t14 t15 t16).bind fun t21 => ((laws_eqRecS.f k t21 t11).bind fun t24 => (if t24 = true then ((laws_toStore.f k l0_0 l0_1 a0_2).bind fun b8 => ((laws_eqStore.f k t14 t15 t16 b8.1 b8.2.1 b8.2.2).bind fun t32 => (if t32 = true then ((laws_markStore.f k t14 t15 t16 1).bind fun b11 => ((laws_eqRecS.f k t21 t11).bind fun t38 => (if t38 = true then (if b11.1 < 0 then (some false) else ((laws_markRecS.f k t21 1).bind fun b15 => ((laws_heldRecS.f k b15.2 1).bind fun t43 => (if t43 < 0 then (some false) else (if t43 = b15.1 then ((laws_toStore.f k l0_0 l0_1 a0_2).bind fun b19 => ((impl_BaseRecs.f k b19.1 b19.2.1 b19.2.2).bind fun t51 => ((laws_eqRecS.f k t51 t11).bind fun t54 => (if t54 = true then ((laws_heldRecS.f k b15.2 1).bind fun t56 => (if t56 < 0 then (some false) else (if t56 = b15.1 then (some true) else (some false)))) else (some false))))) else (some false)))))) else (some false)))) else (some false)))) else (some false)))) = some r := H
    have Fa4 := Aside0.mk Fa40
    clear Fa40
    replace H := Option.bind_eq_some_iff.mp H
    obtain ⟨t21, Fa50, H⟩ := H
    replace H : ((laws_eqRecS.f k t21 t11).bind fun t24 => (if t24 = true then ((laws_toStore.f k l0_0 l0_1 a0_2).bind fun b8 => ((laws_eqStore.f k t14 t15 t16 b8.1 b8.2.1 b8.2.2).bind fun t32 => (if t32 = true then ((laws_markStore.f k t14 t15 t16 1).bind fun b11 => ((laws_eqRecS.f k t21 t11).bind fun t38 => (if t38 = true then (if b11.1 < 0 then (some false) else ((laws_markRecS.f k t21 1).bind fun b15 => ((laws_heldRecS.f k b15.2 1).bind fun t43 => (if t43 < 0 then (some false) else (if t43 = b15.1 then ((laws_toStore.f k l0_0 l0_1 a0_2).bind fun b19 => ((impl_BaseRecs.f k b19.1 b19.2.1 b19.2.2).bind fun t51 => ((laws_eqRecS.f k t51 t11).bind fun t54 => (if t54 = true then ((laws_heldRecS.f k b15.2 1).bind fun t56 => (if t56 < 0 then (some false) else (if t56 = b15.1 then (some true) else (some false)))) else (some false))))) else (some false)))))) else (some false)))) else (some false)))) else (some false))) = some r := H
    have Fa5 := Aside0.mk Fa50
    clear Fa50
    replace H := Option.bind_eq_some_iff.mp H
    obtain ⟨t24, Fa60, H⟩ := H
    replace H : (if t24 = true then ((laws_toStore.f k l0_0 l0_1 a0_2).bind fun b8 => ((laws_eqStore.f k t14 t15 t16 b8.1 b8.2.1 b8.2.2).bind fun t32 => (if t32 = true then ((laws_markStore.f k t14 t15 t16 1).bind fun b11 => ((laws_eqRecS.f k t21 t11).bind fun t38 => (if t38 = true then (if b11.1 < 0 then (some false) else ((laws_markRecS.f k t21 1).bind fun b15 => ((laws_heldRecS.f k b15.2 1).bind fun t43 => (if t43 < 0 then (some false) else (if t43 = b15.1 then ((laws_toStore.f k l0_0 l0_1 a0_2).bind fun b19 => ((impl_BaseRecs.f k b19.1 b19.2.1 b19.2.2).bind fun t51 => ((laws_eqRecS.f k t51 t11).bind fun t54 => (if t54 = true then ((laws_heldRecS.f k b15.2 1).bind fun t56 => (if t56 < 0 then (some false) else (if t56 = b15.1 then (some true) else (some false)))) else (some false))))) else (some false)))))) else (some false)))) else (some false)))) else (some false)) = some r := H
    have Fa6 := Aside0.mk Fa60
    clear Fa60
    have cd7 : t24 = true := Classical.byContradiction fun hc_ => by rw [if_neg hc_] at H; exact absurd ((Option.some.inj H).trans hT.out) (by decide)
    rw [if_pos cd7] at H
    subst cd7
    replace H : ((laws_toStore.f k l0_0 l0_1 a0_2).bind fun b8 => ((laws_eqStore.f k t14 t15 t16 b8.1 b8.2.1 b8.2.2).bind fun t32 => (if t32 = true then ((laws_markStore.f k t14 t15 t16 1).bind fun b11 => ((laws_eqRecS.f k t21 t11).bind fun t38 => (if t38 = true then (if b11.1 < 0 then (some false) else ((laws_markRecS.f k t21 1).bind fun b15 => ((laws_heldRecS.f k b15.2 1).bind fun t43 => (if t43 < 0 then (some false) else (if t43 = b15.1 then ((laws_toStore.f k l0_0 l0_1 a0_2).bind fun b19 => ((impl_BaseRecs.f k b19.1 b19.2.1 b19.2.2).bind fun t51 => ((laws_eqRecS.f k t51 t11).bind fun t54 => (if t54 = true then ((laws_heldRecS.f k b15.2 1).bind fun t56 => (if t56 < 0 then (some false) else (if t56 = b15.1 then (some true) else (some false)))) else (some false))))) else (some false)))))) else (some false)))) else (some false)))) = some r := H
    replace H := Option.bind_eq_some_iff.mp H
    obtain ⟨⟨t26, t27, t28⟩, Fa80, H⟩ := H
    replace H : ((laws_eqStore.f k t14 t15 t16 t26 t27 t28).bind fun t32 => (if t32 = true then ((laws_markStore.f k t14 t15 t16 1).bind fun b11 => ((laws_eqRecS.f k t21 t11).bind fun t38 => (if t38 = true then (if b11.1 < 0 then (some false) else ((laws_markRecS.f k t21 1).bind fun b15 => ((laws_heldRecS.f k b15.2 1).bind fun t43 => (if t43 < 0 then (some false) else (if t43 = b15.1 then ((laws_toStore.f k l0_0 l0_1 a0_2).bind fun b19 => ((impl_BaseRecs.f k b19.1 b19.2.1 b19.2.2).bind fun t51 => ((laws_eqRecS.f k t51 t11).bind fun t54 => (if t54 = true then ((laws_heldRecS.f k b15.2 1).bind fun t56 => (if t56 < 0 then (some false) else (if t56 = b15.1 then (some true) else (some false)))) else (some false))))) else (some false)))))) else (some false)))) else (some false))) = some r := H
    have Fa8 := Aside0.mk Fa80
    clear Fa80
    replace H := Option.bind_eq_some_iff.mp H
    obtain ⟨t32, Fa90, H⟩ := H
    replace H : (if t32 = true then ((laws_markStore.f k t14 t15 t16 1).bind fun b11 => ((laws_eqRecS.f k t21 t11).bind fun t38 => (if t38 = true then (if b11.1 < 0 then (some false) else ((laws_markRecS.f k t21 1).bind fun b15 => ((laws_heldRecS.f k b15.2 1).bind fun t43 => (if t43 < 0 then (some false) else (if t43 = b15.1 then ((laws_toStore.f k l0_0 l0_1 a0_2).bind fun b19 => ((impl_BaseRecs.f k b19.1 b19.2.1 b19.2.2).bind fun t51 => ((laws_eqRecS.f k t51 t11).bind fun t54 => (if t54 = true then ((laws_heldRecS.f k b15.2 1).bind fun t56 => (if t56 < 0 then (some false) else (if t56 = b15.1 then (some true) else (some false)))) else (some false))))) else (some false)))))) else (some false)))) else (some false)) = some r := H
    have Fa9 := Aside0.mk Fa90
    clear Fa90
    have cd10 : t32 = true := Classical.byContradiction fun hc_ => by rw [if_neg hc_] at H; exact absurd ((Option.some.inj H).trans hT.out) (by decide)
    rw [if_pos cd10] at H
    subst cd10
    replace H : ((laws_markStore.f k t14 t15 t16 1).bind fun b11 => ((laws_eqRecS.f k t21 t11).bind fun t38 => (if t38 = true then (if b11.1 < 0 then (some false) else ((laws_markRecS.f k t21 1).bind fun b15 => ((laws_heldRecS.f k b15.2 1).bind fun t43 => (if t43 < 0 then (some false) else (if t43 = b15.1 then ((laws_toStore.f k l0_0 l0_1 a0_2).bind fun b19 => ((impl_BaseRecs.f k b19.1 b19.2.1 b19.2.2).bind fun t51 => ((laws_eqRecS.f k t51 t11).bind fun t54 => (if t54 = true then ((laws_heldRecS.f k b15.2 1).bind fun t56 => (if t56 < 0 then (some false) else (if t56 = b15.1 then (some true) else (some false)))) else (some false))))) else (some false)))))) else (some false)))) = some r := H
    replace H := Option.bind_eq_some_iff.mp H
    obtain ⟨⟨t34, t35, t36⟩, Fa110, H⟩ := H
    replace H : ((laws_eqRecS.f k t21 t11).bind fun t38 => (if t38 = true then (if t34 < 0 then (some false) else ((laws_markRecS.f k t21 1).bind fun b15 => ((laws_heldRecS.f k b15.2 1).bind fun t43 => (if t43 < 0 then (some false) else (if t43 = b15.1 then ((laws_toStore.f k l0_0 l0_1 a0_2).bind fun b19 => ((impl_BaseRecs.f k b19.1 b19.2.1 b19.2.2).bind fun t51 => ((laws_eqRecS.f k t51 t11).bind fun t54 => (if t54 = true then ((laws_heldRecS.f k b15.2 1).bind fun t56 => (if t56 < 0 then (some false) else (if t56 = b15.1 then (some true) else (some false)))) else (some false))))) else (some false)))))) else (some false))) = some r := H
    have Fa11 := Aside0.mk Fa110
    clear Fa110
    replace H := Option.bind_eq_some_iff.mp H
    obtain ⟨t38, Fa120, H⟩ := H
    replace H : (if t38 = true then (if t34 < 0 then (some false) else ((laws_markRecS.f k t21 1).bind fun b15 => ((laws_heldRecS.f k b15.2 1).bind fun t43 => (if t43 < 0 then (some false) else (if t43 = b15.1 then ((laws_toStore.f k l0_0 l0_1 a0_2).bind fun b19 => ((impl_BaseRecs.f k b19.1 b19.2.1 b19.2.2).bind fun t51 => ((laws_eqRecS.f k t51 t11).bind fun t54 => (if t54 = true then ((laws_heldRecS.f k b15.2 1).bind fun t56 => (if t56 < 0 then (some false) else (if t56 = b15.1 then (some true) else (some false)))) else (some false))))) else (some false)))))) else (some false)) = some r := H
    have Fa12 := Aside0.mk Fa120
    clear Fa120
    have cd13 : t38 = true := Classical.byContradiction fun hc_ => by rw [if_neg hc_] at H; exact absurd ((Option.some.inj H).trans hT.out) (by decide)
    rw [if_pos cd13] at H
    subst cd13
    replace H : (if t34 < 0 then (some false) else ((laws_markRecS.f k t21 1).bind fun b15 => ((laws_heldRecS.f k b15.2 1).bind fun t43 => (if t43 < 0 then (some false) else (if t43 = b15.1 then ((laws_toStore.f k l0_0 l0_1 a0_2).bind fun b19 => ((impl_BaseRecs.f k b19.1 b19.2.1 b19.2.2).bind fun t51 => ((laws_eqRecS.f k t51 t11).bind fun t54 => (if t54 = true then ((laws_heldRecS.f k b15.2 1).bind fun t56 => (if t56 < 0 then (some false) else (if t56 = b15.1 then (some true) else (some false)))) else (some false))))) else (some false)))))) = some r := H
    have cd14 : ¬ (t34 < 0) := fun hc_ => by rw [if_pos hc_] at H; exact absurd ((Option.some.inj H).trans hT.out) (by decide)
    rw [if_neg cd14] at H
    have cd14b0 : decide (t34 < 0) = false := decide_eq_false cd14
    clear cd14
    replace H := Option.bind_eq_some_iff.mp H
    obtain ⟨⟨t40, t41⟩, Fa150, H⟩ := H
    replace H : ((laws_heldRecS.f k t41 1).bind fun t43 => (if t43 < 0 then (some false) else (if t43 = t40 then ((laws_toStore.f k l0_0 l0_1 a0_2).bind fun b19 => ((impl_BaseRecs.f k b19.1 b19.2.1 b19.2.2).bind fun t51 => ((laws_eqRecS.f k t51 t11).bind fun t54 => (if t54 = true then ((laws_heldRecS.f k t41 1).bind fun t56 => (if t56 < 0 then (some false) else (if t56 = t40 then (some true) else (some false)))) else (some false))))) else (some false)))) = some r := H
    have Fa15 := Aside0.mk Fa150
    clear Fa150
    replace H := Option.bind_eq_some_iff.mp H
    obtain ⟨t43, Fa160, H⟩ := H
    replace H : (if t43 < 0 then (some false) else (if t43 = t40 then ((laws_toStore.f k l0_0 l0_1 a0_2).bind fun b19 => ((impl_BaseRecs.f k b19.1 b19.2.1 b19.2.2).bind fun t51 => ((laws_eqRecS.f k t51 t11).bind fun t54 => (if t54 = true then ((laws_heldRecS.f k t41 1).bind fun t56 => (if t56 < 0 then (some false) else (if t56 = t40 then (some true) else (some false)))) else (some false))))) else (some false))) = some r := H
    have Fa16 := Aside0.mk Fa160
    clear Fa160
    have cd17 : ¬ (t43 < 0) := fun hc_ => by rw [if_pos hc_] at H; exact absurd ((Option.some.inj H).trans hT.out) (by decide)
    rw [if_neg cd17] at H
    have cd17b0 : decide (t43 < 0) = false := decide_eq_false cd17
    clear cd17
    have cd18 : t43 = t40 := Classical.byContradiction fun hc_ => by rw [if_neg hc_] at H; exact absurd ((Option.some.inj H).trans hT.out) (by decide)
    rw [if_pos cd18] at H
    have cd18b0 : (t43 == t40) = true := beq_iff_eq.mpr cd18
    have cd18b1 : (t43 != t40) = false := bne_eq_false_iff_eq.mpr cd18
    clear cd18
    replace H := Option.bind_eq_some_iff.mp H
    obtain ⟨⟨t45, t46, t47⟩, Fa190, H⟩ := H
    replace H : ((impl_BaseRecs.f k t45 t46 t47).bind fun t51 => ((laws_eqRecS.f k t51 t11).bind fun t54 => (if t54 = true then ((laws_heldRecS.f k t41 1).bind fun t56 => (if t56 < 0 then (some false) else (if t56 = t40 then (some true) else (some false)))) else (some false)))) = some r := H
    have Fa19 := Aside0.mk Fa190
    clear Fa190
    replace H := Option.bind_eq_some_iff.mp H
    obtain ⟨t51, Fa200, H⟩ := H
    replace H : ((laws_eqRecS.f k t51 t11).bind fun t54 => (if t54 = true then ((laws_heldRecS.f k t41 1).bind fun t56 => (if t56 < 0 then (some false) else (if t56 = t40 then (some true) else (some false)))) else (some false))) = some r := H
    have Fa20 := Aside0.mk Fa200
    clear Fa200
    replace H := Option.bind_eq_some_iff.mp H
    obtain ⟨t54, Fa210, H⟩ := H
    replace H : (if t54 = true then ((laws_heldRecS.f k t41 1).bind fun t56 => (if t56 < 0 then (some false) else (if t56 = t40 then (some true) else (some false)))) else (some false)) = some r := H
    have Fa21 := Aside0.mk Fa210
    clear Fa210
    have cd22 : t54 = true := Classical.byContradiction fun hc_ => by rw [if_neg hc_] at H; exact absurd ((Option.some.inj H).trans hT.out) (by decide)
    rw [if_pos cd22] at H
    subst cd22
    replace H : ((laws_heldRecS.f k t41 1).bind fun t56 => (if t56 < 0 then (some false) else (if t56 = t40 then (some true) else (some false)))) = some r := H
    replace H := Option.bind_eq_some_iff.mp H
    obtain ⟨t56, Fa230, H⟩ := H
    replace H : (if t56 < 0 then (some false) else (if t56 = t40 then (some true) else (some false))) = some r := H
    have Fa23 := Aside0.mk Fa230
    clear Fa230
    have cd24 : ¬ (t56 < 0) := fun hc_ => by rw [if_pos hc_] at H; exact absurd ((Option.some.inj H).trans hT.out) (by decide)
    rw [if_neg cd24] at H
    have cd24b0 : decide (t56 < 0) = false := decide_eq_false cd24
    clear cd24
    have cd25 : t56 = t40 := Classical.byContradiction fun hc_ => by rw [if_neg hc_] at H; exact absurd ((Option.some.inj H).trans hT.out) (by decide)
    rw [if_pos cd25] at H
    have cd25b0 : (t56 == t40) = true := beq_iff_eq.mpr cd25
    have cd25b1 : (t56 != t40) = false := bne_eq_false_iff_eq.mpr cd25
    clear cd25
    obtain rfl := Option.some.inj H
    go_enter Try.func8, Try.ntmps8
    go_wp2_with (first | ((with_reducible refine gate_dst (N := 1) rfl ?_); refine box_event ?hg (N := 1) ?hd (cs := #[.slice A0_0 l0_0.length c0_0, .slice A0_1 l0_1.length c0_1, .int .i64 a0_2]) (t := 74) ?hr ?_; (case hd => rfl); (case hg => rfl); (case hr => first | (go_simp; done) | (go_simp; rfl)); intro gb1 hg w15 hbox hb; have GBK1 := Aside0.mk (show gb1 = w.heap.size ∧ gb1 < w15.heap.size from ⟨hg, blk_lt hbox⟩); have GW1 := Aside0.mk (show w.heap.size ≤ gb1 by have q_ := below_size HB.out; rw [hg]; exact q_); have BK1 := Aside0.mk hbox; replace HB := Aside0.mk (below_step HB.out hb); replace HL := Aside0.mk (And.intro HL.out (below_size hb)); clear hb hbox hg; have hcz16 : w15.cell? ⟨gb1, 0, none⟩ = some (.slice A0_0 l0_0.length c0_0) := (blk_cell BK1.out 0).trans rfl; have hfz17 := blk_frozen BK1.out 0; have hcz18 : w15.cell? ⟨gb1, 1, none⟩ = some (.slice A0_1 l0_1.length c0_1) := (blk_cell BK1.out 1).trans rfl; have hfz19 := blk_frozen BK1.out 1; have hcz20 : w15.cell? ⟨gb1, 2, none⟩ = some (.int .i64 a0_2) := (blk_cell BK1.out 2).trans rfl; have hfz21 := blk_frozen BK1.out 2) | ((with_reducible refine gate_callee (f := 42) rfl ?_); refine goesL_ (some 13) rfl rfl Try.func42 (by kernel_rfl) rfl #[.agg #[.slice A0_0 l0_0.length c0_0, .slice A0_1 l0_1.length c0_1, .int .i64 a0_2], .int .i64 1048576] rfl (by (try simp only [List.map_toArray, List.map_cons, List.map_nil]); first | done | rfl | (simp only [List.length_drop, List.length_take]; rfl)) ?_; (with_reducible refine (laws_szStore.calls k _ _ l0_0 _ _ l0_1 a0_2 1048576 t3 _ ?side1 ?side2 ?side3 ?side4 Fa0.out).mono ?_); (case side1 => exact Kd.C_below HR0_0.out HB.out); (case side2 => exact HC0_0.out); (case side3 => exact Kd.C_below HR0_1.out HB.out); (case side4 => exact HC0_1.out); rintro e w22 ⟨rfl, hb⟩; refine ⟨_, rfl, ?_⟩; replace BK1 := Aside0.mk (blk_below BK1.out hb); replace HB := Aside0.mk (below_step HB.out hb); replace HL := Aside0.mk (And.intro HL.out (below_size hb)); clear hb; clear hcz16 hfz17 hcz18 hfz19 hcz20 hfz21; have hcz23 : w22.cell? ⟨gb1, 0, none⟩ = some (.slice A0_0 l0_0.length c0_0) := (blk_cell BK1.out 0).trans rfl; have hfz24 := blk_frozen BK1.out 0; have hcz25 : w22.cell? ⟨gb1, 1, none⟩ = some (.slice A0_1 l0_1.length c0_1) := (blk_cell BK1.out 1).trans rfl; have hfz26 := blk_frozen BK1.out 1; have hcz27 : w22.cell? ⟨gb1, 2, none⟩ = some (.int .i64 a0_2) := (blk_cell BK1.out 2).trans rfl; have hfz28 := blk_frozen BK1.out 2) | ((with_reducible refine gate_callee (f := 44) rfl ?_); refine goesL_ (some 17) rfl rfl Try.func44 (by kernel_rfl) rfl #[.agg #[.slice A0_0 l0_0.length c0_0, .slice A0_1 l0_1.length c0_1, .int .i64 a0_2]] rfl (by (try simp only [List.map_toArray, List.map_cons, List.map_nil]); first | done | rfl | (simp only [List.length_drop, List.length_take]; rfl)) ?_; (with_reducible refine (laws_toStore.calls k _ _ l0_0 _ _ l0_1 a0_2 t5 t6 t7 _ ?side1 ?side2 ?side3 ?side4 Fa2.out).mono ?_); (case side1 => exact Kd.C_below HR0_0.out HB.out); (case side2 => exact HC0_0.out); (case side3 => exact Kd.C_below HR0_1.out HB.out); (case side4 => exact HC0_1.out); rintro e w29 ⟨v8, v9, rfl, ho0, ho1, hb⟩; refine ⟨_, rfl, ?_⟩; obtain ⟨TA30, TB30, hap30, ho0, ho1⟩ := Kd.two_apart ho0 ho1 (by decide); have DD30 := Aside0.mk hap30; clear hap30; have HZ8 := Aside0.mk (Kd.R_lower (Kd.R_mono (ok' := fun k_ => ((w22.heap.size ≤ k_ ∧ k_ < w29.heap.size) ∧ TA30 k_)) (Kd.R_bound ho0) (fun k_ hk_ => hk_.1)) (below_size HB.out)); clear ho0; have HZ9 := Aside0.mk (Kd.S_lower (Kd.S_mono (ok' := fun k_ => ((w22.heap.size ≤ k_ ∧ k_ < w29.heap.size) ∧ TB30 k_)) (Kd.S_bound ho1) (fun k_ hk_ => hk_.1)) (below_size HB.out)); clear ho1; replace BK1 := Aside0.mk (blk_below BK1.out hb); replace HB := Aside0.mk (below_step HB.out hb); replace HL := Aside0.mk (And.intro HL.out (below_size hb)); clear hb; obtain ⟨A8, c8, e8⟩ := Kd.R_slice HZ8.out; subst e8; obtain ⟨A9, c9, e9⟩ := Kd.S_slice HZ9.out; subst e9; clear hcz23 hfz24 hcz25 hfz26 hcz27 hfz28; have hcz31 : w29.cell? ⟨gb1, 0, none⟩ = some (.slice A0_0 l0_0.length c0_0) := (blk_cell BK1.out 0).trans rfl; have hfz32 := blk_frozen BK1.out 0; have hcz33 : w29.cell? ⟨gb1, 1, none⟩ = some (.slice A0_1 l0_1.length c0_1) := (blk_cell BK1.out 1).trans rfl; have hfz34 := blk_frozen BK1.out 1; have hcz35 : w29.cell? ⟨gb1, 2, none⟩ = some (.int .i64 a0_2) := (blk_cell BK1.out 2).trans rfl; have hfz36 := blk_frozen BK1.out 2) | ((with_reducible refine gate_callee (f := 43) rfl ?_); refine goesL_ (some 18) rfl rfl Try.func43 (by kernel_rfl) rfl #[.agg #[.slice A8 t5.length c8, .slice A9 t6.length c9, .int .i64 t7]] rfl (by (try simp only [List.map_toArray, List.map_cons, List.map_nil]); first | done | rfl | (simp only [List.length_drop, List.length_take]; rfl)) ?_; (with_reducible refine (spec_BaseRecs.calls k _ _ t5 _ _ t6 t7 t11 _ ?side1 ?side2 ?side3 ?side4 Fa3.out).mono ?_); (case side1 => exact (Kd.R_reads' HZ8.out).2.2); (case side2 => exact (Kd.R_reads' HZ8.out).2.1); (case side3 => exact (Kd.S_reads' HZ9.out).2.2); (case side4 => exact (Kd.S_reads' HZ9.out).2.1); rintro e w37 ⟨v12, rfl, ho0, hb⟩; refine ⟨_, rfl, ?_⟩; have HZ12 := Aside0.mk (Kd.R_lower (Kd.R_mono (ok' := fun k_ => (w29.heap.size ≤ k_ ∧ k_ < w37.heap.size)) (Kd.R_bound ho0) (fun k_ hk_ => ⟨hk_.2.1, hk_.2.2.1⟩)) (below_size HB.out)); clear ho0; replace HZ8 := Aside0.mk (Kd.R_below HZ8.out hb); replace HZ9 := Aside0.mk (Kd.S_below HZ9.out hb); replace BK1 := Aside0.mk (blk_below BK1.out hb); replace HB := Aside0.mk (below_step HB.out hb); replace HL := Aside0.mk (And.intro HL.out (below_size hb)); clear hb; obtain ⟨A12, c12, e12⟩ := Kd.R_slice HZ12.out; subst e12; clear hcz31 hfz32 hcz33 hfz34 hcz35 hfz36; have hcz38 : w37.cell? ⟨gb1, 0, none⟩ = some (.slice A0_0 l0_0.length c0_0) := (blk_cell BK1.out 0).trans rfl; have hfz39 := blk_frozen BK1.out 0; have hcz40 : w37.cell? ⟨gb1, 1, none⟩ = some (.slice A0_1 l0_1.length c0_1) := (blk_cell BK1.out 1).trans rfl; have hfz41 := blk_frozen BK1.out 1; have hcz42 : w37.cell? ⟨gb1, 2, none⟩ = some (.int .i64 a0_2) := (blk_cell BK1.out 2).trans rfl; have hfz43 := blk_frozen BK1.out 2) | ((with_reducible refine gate_callee (f := 44) rfl ?_); refine goesL_ (some 20) rfl rfl Try.func44 (by kernel_rfl) rfl #[.agg #[.slice A0_0 l0_0.length c0_0, .slice A0_1 l0_1.length c0_1, .int .i64 a0_2]] rfl (by (try simp only [List.map_toArray, List.map_cons, List.map_nil]); first | done | rfl | (simp only [List.length_drop, List.length_take]; rfl)) ?_; (with_reducible refine (laws_toStore.calls k _ _ l0_0 _ _ l0_1 a0_2 t14 t15 t16 _ ?side1 ?side2 ?side3 ?side4 Fa4.out).mono ?_); (case side1 => exact Kd.C_below HR0_0.out HB.out); (case side2 => exact HC0_0.out); (case side3 => exact Kd.C_below HR0_1.out HB.out); (case side4 => exact HC0_1.out); rintro e w44 ⟨v17, v18, rfl, ho0, ho1, hb⟩; refine ⟨_, rfl, ?_⟩; obtain ⟨TA45, TB45, hap45, ho0, ho1⟩ := Kd.two_apart ho0 ho1 (by decide); have DD45 := Aside0.mk hap45; clear hap45; have HZ17 := Aside0.mk (Kd.R_lower (Kd.R_mono (ok' := fun k_ => ((w37.heap.size ≤ k_ ∧ k_ < w44.heap.size) ∧ TA45 k_)) (Kd.R_bound ho0) (fun k_ hk_ => hk_.1)) (below_size HB.out)); clear ho0; have HZ18 := Aside0.mk (Kd.S_lower (Kd.S_mono (ok' := fun k_ => ((w37.heap.size ≤ k_ ∧ k_ < w44.heap.size) ∧ TB45 k_)) (Kd.S_bound ho1) (fun k_ hk_ => hk_.1)) (below_size HB.out)); clear ho1; replace HZ8 := Aside0.mk (Kd.R_below HZ8.out hb); replace HZ9 := Aside0.mk (Kd.S_below HZ9.out hb); replace HZ12 := Aside0.mk (Kd.R_below HZ12.out hb); replace BK1 := Aside0.mk (blk_below BK1.out hb); replace HB := Aside0.mk (below_step HB.out hb); replace HL := Aside0.mk (And.intro HL.out (below_size hb)); clear hb; obtain ⟨A17, c17, e17⟩ := Kd.R_slice HZ17.out; subst e17; obtain ⟨A18, c18, e18⟩ := Kd.S_slice HZ18.out; subst e18; clear hcz38 hfz39 hcz40 hfz41 hcz42 hfz43; have hcz46 : w44.cell? ⟨gb1, 0, none⟩ = some (.slice A0_0 l0_0.length c0_0) := (blk_cell BK1.out 0).trans rfl; have hfz47 := blk_frozen BK1.out 0; have hcz48 : w44.cell? ⟨gb1, 1, none⟩ = some (.slice A0_1 l0_1.length c0_1) := (blk_cell BK1.out 1).trans rfl; have hfz49 := blk_frozen BK1.out 1; have hcz50 : w44.cell? ⟨gb1, 2, none⟩ = some (.int .i64 a0_2) := (blk_cell BK1.out 2).trans rfl; have hfz51 := blk_frozen BK1.out 2) | ((with_reducible refine gate_dst (N := 5) rfl ?_); refine box_event ?hg (N := 5) ?hd (cs := #[.slice none 0 0, .slice none 0 0, .int .i64 0]) (t := 27) ?hr ?_; (case hd => rfl); (case hg => rfl); (case hr => first | (go_simp; done) | (go_simp; rfl)); intro gb19 hg w52 hbox hb; replace HZ8 := Aside0.mk (Kd.R_below HZ8.out hb); replace HZ9 := Aside0.mk (Kd.S_below HZ9.out hb); replace HZ12 := Aside0.mk (Kd.R_below HZ12.out hb); replace HZ17 := Aside0.mk (Kd.R_below HZ17.out hb); replace HZ18 := Aside0.mk (Kd.S_below HZ18.out hb); replace BK1 := Aside0.mk (blk_below BK1.out hb); have GBK19 := Aside0.mk (show gb19 = w44.heap.size ∧ gb19 < w52.heap.size from ⟨hg, blk_lt hbox⟩); have GW19 := Aside0.mk (show w.heap.size ≤ gb19 by have q_ := below_size HB.out; rw [hg]; exact q_); have BK19 := Aside0.mk hbox; replace HB := Aside0.mk (below_step HB.out hb); replace HL := Aside0.mk (And.intro HL.out (below_size hb)); clear hb hbox hg; clear hcz46 hfz47 hcz48 hfz49 hcz50 hfz51; have hcz53 : w52.cell? ⟨gb1, 0, none⟩ = some (.slice A0_0 l0_0.length c0_0) := (blk_cell BK1.out 0).trans rfl; have hfz54 := blk_frozen BK1.out 0; have hcz55 : w52.cell? ⟨gb1, 1, none⟩ = some (.slice A0_1 l0_1.length c0_1) := (blk_cell BK1.out 1).trans rfl; have hfz56 := blk_frozen BK1.out 1; have hcz57 : w52.cell? ⟨gb1, 2, none⟩ = some (.int .i64 a0_2) := (blk_cell BK1.out 2).trans rfl; have hfz58 := blk_frozen BK1.out 2; have hcz59 : w52.cell? ⟨gb19, 0, none⟩ = some (.slice none 0 0) := (blk_cell BK19.out 0).trans rfl; have hfz60 := blk_frozen BK19.out 0; have hcz61 : w52.cell? ⟨gb19, 1, none⟩ = some (.slice none 0 0) := (blk_cell BK19.out 1).trans rfl; have hfz62 := blk_frozen BK19.out 1; have hcz63 : w52.cell? ⟨gb19, 2, none⟩ = some (.int .i64 0) := (blk_cell BK19.out 2).trans rfl; have hfz64 := blk_frozen BK19.out 2) | ((with_reducible refine gate_store (t := 27) (p := 5) rfl ?_); refine store_event (t := 27) (p := 5) (v := ?vo66_) (w1 := (((w52.setCell ⟨gb19, 0, none⟩ (.slice A17 t14.length c17)).setCell ⟨gb19, 1, none⟩ (.slice A18 t15.length c18)).setCell ⟨gb19, 2, none⟩ (.int .i64 t16))) ?hg ?ho ?hn ?hr ?_; (case ho => rfl); (case hg => rfl); (case hn => rfl); (case hr => first | (go_simp; done) | (go_simp; rfl)); intro w65 hw; have hk : Kept w52 w65 (fun k_ => k_ = gb19) := (by rw [hw]; exact (Kept.setCell (Kept.setCell (Kept.setCell (Kept.refl w52 (fun k_ => k_ = gb19)) (p := ⟨gb19, 0, none⟩) (.inl rfl) (.slice A17 t14.length c17)) (p := ⟨gb19, 1, none⟩) (.inl rfl) (.slice A18 t15.length c18)) (p := ⟨gb19, 2, none⟩) (.inl rfl) (.int .i64 t16))); have g0_ := GBK19.out; replace HZ8 := Aside0.mk (Kd.R_kept HZ8.out hk (fun k_ (hk_ : ((w22.heap.size ≤ k_ ∧ k_ < w29.heap.size) ∧ TA30 k_)) (hs_ : k_ = gb19) => by have q_ := HL.out; first | omega | exact DD30.out k_ hk_.2 hs_.2 | exact DD30.out k_ hs_.2 hk_.2 | exact DD45.out k_ hk_.2 hs_.2 | exact DD45.out k_ hs_.2 hk_.2 | (rcases hk_ with hk_ | hk_ <;> first | omega | exact DD30.out k_ hk_.2 hs_.2 | exact DD30.out k_ hs_.2 hk_.2 | exact DD45.out k_ hk_.2 hs_.2 | exact DD45.out k_ hs_.2 hk_.2) | (rcases hs_ with hs_ | hs_ <;> first | omega | exact DD30.out k_ hk_.2 hs_.2 | exact DD30.out k_ hs_.2 hk_.2 | exact DD45.out k_ hk_.2 hs_.2 | exact DD45.out k_ hs_.2 hk_.2))); replace HZ9 := Aside0.mk (Kd.S_kept HZ9.out hk (fun k_ (hk_ : ((w22.heap.size ≤ k_ ∧ k_ < w29.heap.size) ∧ TB30 k_)) (hs_ : k_ = gb19) => by have q_ := HL.out; first | omega | exact DD30.out k_ hk_.2 hs_.2 | exact DD30.out k_ hs_.2 hk_.2 | exact DD45.out k_ hk_.2 hs_.2 | exact DD45.out k_ hs_.2 hk_.2 | (rcases hk_ with hk_ | hk_ <;> first | omega | exact DD30.out k_ hk_.2 hs_.2 | exact DD30.out k_ hs_.2 hk_.2 | exact DD45.out k_ hk_.2 hs_.2 | exact DD45.out k_ hs_.2 hk_.2) | (rcases hs_ with hs_ | hs_ <;> first | omega | exact DD30.out k_ hk_.2 hs_.2 | exact DD30.out k_ hs_.2 hk_.2 | exact DD45.out k_ hk_.2 hs_.2 | exact DD45.out k_ hs_.2 hk_.2))); replace HZ12 := Aside0.mk (Kd.R_kept HZ12.out hk (fun k_ (hk_ : (w29.heap.size ≤ k_ ∧ k_ < w37.heap.size)) (hs_ : k_ = gb19) => by have q_ := HL.out; first | omega | exact DD30.out k_ hk_.2 hs_.2 | exact DD30.out k_ hs_.2 hk_.2 | exact DD45.out k_ hk_.2 hs_.2 | exact DD45.out k_ hs_.2 hk_.2 | (rcases hk_ with hk_ | hk_ <;> first | omega | exact DD30.out k_ hk_.2 hs_.2 | exact DD30.out k_ hs_.2 hk_.2 | exact DD45.out k_ hk_.2 hs_.2 | exact DD45.out k_ hs_.2 hk_.2) | (rcases hs_ with hs_ | hs_ <;> first | omega | exact DD30.out k_ hk_.2 hs_.2 | exact DD30.out k_ hs_.2 hk_.2 | exact DD45.out k_ hk_.2 hs_.2 | exact DD45.out k_ hs_.2 hk_.2))); replace HZ17 := Aside0.mk (Kd.R_kept HZ17.out hk (fun k_ (hk_ : ((w37.heap.size ≤ k_ ∧ k_ < w44.heap.size) ∧ TA45 k_)) (hs_ : k_ = gb19) => by have q_ := HL.out; first | omega | exact DD30.out k_ hk_.2 hs_.2 | exact DD30.out k_ hs_.2 hk_.2 | exact DD45.out k_ hk_.2 hs_.2 | exact DD45.out k_ hs_.2 hk_.2 | (rcases hk_ with hk_ | hk_ <;> first | omega | exact DD30.out k_ hk_.2 hs_.2 | exact DD30.out k_ hs_.2 hk_.2 | exact DD45.out k_ hk_.2 hs_.2 | exact DD45.out k_ hs_.2 hk_.2) | (rcases hs_ with hs_ | hs_ <;> first | omega | exact DD30.out k_ hk_.2 hs_.2 | exact DD30.out k_ hs_.2 hk_.2 | exact DD45.out k_ hk_.2 hs_.2 | exact DD45.out k_ hs_.2 hk_.2))); replace HZ18 := Aside0.mk (Kd.S_kept HZ18.out hk (fun k_ (hk_ : ((w37.heap.size ≤ k_ ∧ k_ < w44.heap.size) ∧ TB45 k_)) (hs_ : k_ = gb19) => by have q_ := HL.out; first | omega | exact DD30.out k_ hk_.2 hs_.2 | exact DD30.out k_ hs_.2 hk_.2 | exact DD45.out k_ hk_.2 hs_.2 | exact DD45.out k_ hs_.2 hk_.2 | (rcases hk_ with hk_ | hk_ <;> first | omega | exact DD30.out k_ hk_.2 hs_.2 | exact DD30.out k_ hs_.2 hk_.2 | exact DD45.out k_ hk_.2 hs_.2 | exact DD45.out k_ hs_.2 hk_.2) | (rcases hs_ with hs_ | hs_ <;> first | omega | exact DD30.out k_ hk_.2 hs_.2 | exact DD30.out k_ hs_.2 hk_.2 | exact DD45.out k_ hk_.2 hs_.2 | exact DD45.out k_ hs_.2 hk_.2))); replace BK1 := Aside0.mk (blk_kept BK1.out hk (fun hs_ => by have q_ := HL.out; have g_ := GBK1.out; have hs2_ : gb1 = gb19 := hs_; omega)); clear g0_; replace BK19 := Aside0.mk (show w65.heap[gb19]? = some (.cells #[.slice A17 t14.length c17, .slice A18 t15.length c18, .int .i64 t16] 27 (0, 0)) from (by rw [hw]; exact (blk_put (cs := #[.slice A17 t14.length c17, .slice A18 t15.length c18, .int .i64 0]) (cs' := #[.slice A17 t14.length c17, .slice A18 t15.length c18, .int .i64 t16]) (blk_put (cs := #[.slice A17 t14.length c17, .slice none 0 0, .int .i64 0]) (cs' := #[.slice A17 t14.length c17, .slice A18 t15.length c18, .int .i64 0]) (blk_put (cs := #[.slice none 0 0, .slice none 0 0, .int .i64 0]) (cs' := #[.slice A17 t14.length c17, .slice none 0 0, .int .i64 0]) BK19.out 0 _ rfl) 1 _ rfl) 2 _ rfl))); replace HB := Aside0.mk (show Below w.heap.size w w65 from (by rw [hw]; exact (below_set (below_set (below_set HB.out GW19.out) GW19.out) GW19.out))); replace HL := Aside0.mk (And.intro HL.out hk.1); clear hk hw; clear hcz53 hfz54 hcz55 hfz56 hcz57 hfz58 hcz59 hfz60 hcz61 hfz62 hcz63 hfz64; have hcz67 : w65.cell? ⟨gb1, 0, none⟩ = some (.slice A0_0 l0_0.length c0_0) := (blk_cell BK1.out 0).trans rfl; have hfz68 := blk_frozen BK1.out 0; have hcz69 : w65.cell? ⟨gb1, 1, none⟩ = some (.slice A0_1 l0_1.length c0_1) := (blk_cell BK1.out 1).trans rfl; have hfz70 := blk_frozen BK1.out 1; have hcz71 : w65.cell? ⟨gb1, 2, none⟩ = some (.int .i64 a0_2) := (blk_cell BK1.out 2).trans rfl; have hfz72 := blk_frozen BK1.out 2; have hcz73 : w65.cell? ⟨gb19, 0, none⟩ = some (.slice A17 t14.length c17) := (blk_cell BK19.out 0).trans rfl; have hfz74 := blk_frozen BK19.out 0; have hcz75 : w65.cell? ⟨gb19, 1, none⟩ = some (.slice A18 t15.length c18) := (blk_cell BK19.out 1).trans rfl; have hfz76 := blk_frozen BK19.out 1; have hcz77 : w65.cell? ⟨gb19, 2, none⟩ = some (.int .i64 t16) := (blk_cell BK19.out 2).trans rfl; have hfz78 := blk_frozen BK19.out 2) | ((with_reducible refine gate_callee (f := 45) rfl ?_); refine goesL_ (some 22) rfl rfl Try.func45 (by kernel_rfl) rfl #[.agg #[.slice A17 t14.length c17, .slice A18 t15.length c18, .int .i64 t16]] rfl (by (try simp only [List.map_toArray, List.map_cons, List.map_nil]); first | done | rfl | (simp only [List.length_drop, List.length_take]; rfl)) ?_; (with_reducible refine (impl_BaseRecs.calls k _ _ t14 _ _ t15 t16 t21 _ ?side1 ?side2 ?side3 ?side4 Fa5.out).mono ?_); (case side1 => exact (Kd.R_reads' HZ17.out).2.2); (case side2 => exact (Kd.R_reads' HZ17.out).2.1); (case side3 => exact (Kd.S_reads' HZ18.out).2.2); (case side4 => exact (Kd.S_reads' HZ18.out).2.1); rintro e w79 ⟨v22, rfl, ho0, hb⟩; refine ⟨_, rfl, ?_⟩; have HZ22 := Aside0.mk (Kd.R_lower (Kd.R_mono (ok' := fun k_ => (w65.heap.size ≤ k_ ∧ k_ < w79.heap.size)) (Kd.R_bound ho0) (fun k_ hk_ => ⟨hk_.2.1, hk_.2.2.1⟩)) (below_size HB.out)); clear ho0; replace HZ8 := Aside0.mk (Kd.R_below HZ8.out hb); replace HZ9 := Aside0.mk (Kd.S_below HZ9.out hb); replace HZ12 := Aside0.mk (Kd.R_below HZ12.out hb); replace HZ17 := Aside0.mk (Kd.R_below HZ17.out hb); replace HZ18 := Aside0.mk (Kd.S_below HZ18.out hb); replace BK1 := Aside0.mk (blk_below BK1.out hb); replace BK19 := Aside0.mk (blk_below BK19.out hb); replace HB := Aside0.mk (below_step HB.out hb); replace HL := Aside0.mk (And.intro HL.out (below_size hb)); clear hb; obtain ⟨A22, c22, e22⟩ := Kd.R_slice HZ22.out; subst e22; clear hcz67 hfz68 hcz69 hfz70 hcz71 hfz72 hcz73 hfz74 hcz75 hfz76 hcz77 hfz78; have hcz80 : w79.cell? ⟨gb1, 0, none⟩ = some (.slice A0_0 l0_0.length c0_0) := (blk_cell BK1.out 0).trans rfl; have hfz81 := blk_frozen BK1.out 0; have hcz82 : w79.cell? ⟨gb1, 1, none⟩ = some (.slice A0_1 l0_1.length c0_1) := (blk_cell BK1.out 1).trans rfl; have hfz83 := blk_frozen BK1.out 1; have hcz84 : w79.cell? ⟨gb1, 2, none⟩ = some (.int .i64 a0_2) := (blk_cell BK1.out 2).trans rfl; have hfz85 := blk_frozen BK1.out 2; have hcz86 : w79.cell? ⟨gb19, 0, none⟩ = some (.slice A17 t14.length c17) := (blk_cell BK19.out 0).trans rfl; have hfz87 := blk_frozen BK19.out 0; have hcz88 : w79.cell? ⟨gb19, 1, none⟩ = some (.slice A18 t15.length c18) := (blk_cell BK19.out 1).trans rfl; have hfz89 := blk_frozen BK19.out 1; have hcz90 : w79.cell? ⟨gb19, 2, none⟩ = some (.int .i64 t16) := (blk_cell BK19.out 2).trans rfl; have hfz91 := blk_frozen BK19.out 2) | ((with_reducible refine gate_callee (f := 46) rfl ?_); refine goesL_ (some 25) rfl rfl Try.func46 (by kernel_rfl) rfl #[.slice A22 t21.length c22, .slice A12 t11.length c12] rfl (by (try simp only [List.map_toArray, List.map_cons, List.map_nil]); first | done | rfl | (simp only [List.length_drop, List.length_take]; rfl)) ?_; (with_reducible refine (laws_eqRecS.calls k _ _ t21 _ _ t11 true _ ?side1 ?side2 ?side3 ?side4 Fa6.out).mono ?_); (case side1 => exact (Kd.R_reads' HZ22.out).2.2); (case side2 => exact (Kd.R_reads' HZ22.out).2.1); (case side3 => exact (Kd.R_reads' HZ12.out).2.2); (case side4 => exact (Kd.R_reads' HZ12.out).2.1); rintro e w92 ⟨rfl, hb⟩; refine ⟨_, rfl, ?_⟩; replace HZ8 := Aside0.mk (Kd.R_below HZ8.out hb); replace HZ9 := Aside0.mk (Kd.S_below HZ9.out hb); replace HZ12 := Aside0.mk (Kd.R_below HZ12.out hb); replace HZ17 := Aside0.mk (Kd.R_below HZ17.out hb); replace HZ18 := Aside0.mk (Kd.S_below HZ18.out hb); replace HZ22 := Aside0.mk (Kd.R_below HZ22.out hb); replace BK1 := Aside0.mk (blk_below BK1.out hb); replace BK19 := Aside0.mk (blk_below BK19.out hb); replace HB := Aside0.mk (below_step HB.out hb); replace HL := Aside0.mk (And.intro HL.out (below_size hb)); clear hb; clear hcz80 hfz81 hcz82 hfz83 hcz84 hfz85 hcz86 hfz87 hcz88 hfz89 hcz90 hfz91; have hcz93 : w92.cell? ⟨gb1, 0, none⟩ = some (.slice A0_0 l0_0.length c0_0) := (blk_cell BK1.out 0).trans rfl; have hfz94 := blk_frozen BK1.out 0; have hcz95 : w92.cell? ⟨gb1, 1, none⟩ = some (.slice A0_1 l0_1.length c0_1) := (blk_cell BK1.out 1).trans rfl; have hfz96 := blk_frozen BK1.out 1; have hcz97 : w92.cell? ⟨gb1, 2, none⟩ = some (.int .i64 a0_2) := (blk_cell BK1.out 2).trans rfl; have hfz98 := blk_frozen BK1.out 2; have hcz99 : w92.cell? ⟨gb19, 0, none⟩ = some (.slice A17 t14.length c17) := (blk_cell BK19.out 0).trans rfl; have hfz100 := blk_frozen BK19.out 0; have hcz101 : w92.cell? ⟨gb19, 1, none⟩ = some (.slice A18 t15.length c18) := (blk_cell BK19.out 1).trans rfl; have hfz102 := blk_frozen BK19.out 1; have hcz103 : w92.cell? ⟨gb19, 2, none⟩ = some (.int .i64 t16) := (blk_cell BK19.out 2).trans rfl; have hfz104 := blk_frozen BK19.out 2))
    replace HZ8 := Aside0.mk (Kd.R_drew HZ8.out)
    replace HZ9 := Aside0.mk (Kd.S_drew HZ9.out)
    replace HZ12 := Aside0.mk (Kd.R_drew HZ12.out)
    replace HZ17 := Aside0.mk (Kd.R_drew HZ17.out)
    replace HZ18 := Aside0.mk (Kd.S_drew HZ18.out)
    replace HZ22 := Aside0.mk (Kd.R_drew HZ22.out)
    replace BK1 := Aside0.mk (blk_drew BK1.out)
    replace BK19 := Aside0.mk (blk_drew BK19.out)
    replace HB := Aside0.mk (below_drew1 HB.out)
    replace HL := Aside0.mk (And.intro HL.out (show w92.heap.size ≤ w92.drew.heap.size from Nat.le_refl _))
    clear hcz93 hfz94 hcz95 hfz96 hcz97 hfz98 hcz99 hfz100 hcz101 hfz102 hcz103 hfz104
    refine start_ (n := 5) (S := fun w' => w'.cell? ⟨gb19, 0, none⟩ = some (.slice A17 t14.length c17) ∧ w'.cell? ⟨gb19, 1, none⟩ = some (.slice A18 t15.length c18) ∧ w'.cell? ⟨gb19, 2, none⟩ = some (.int .i64 t16) ∧ w'.cell? ⟨gb1, 0, none⟩ = some (.slice A0_0 l0_0.length c0_0) ∧ w'.cell? ⟨gb1, 1, none⟩ = some (.slice A0_1 l0_1.length c0_1) ∧ w'.cell? ⟨gb1, 2, none⟩ = some (.int .i64 a0_2)) (ds := []) #[false, false, false, false, false] (by kernel_rfl) rfl rfl ⟨(blk_cell BK19.out 0).trans rfl, (blk_cell BK19.out 1).trans rfl, (blk_cell BK19.out 2).trans rfl, (blk_cell BK1.out 0).trans rfl, (blk_cell BK1.out 1).trans rfl, (blk_cell BK1.out 2).trans rfl⟩ (fun hHeld => ?_)
    generalize w92.drew = w105 at HZ8 HZ9 HZ12 HZ17 HZ18 HZ22 BK1 BK19 HB HL hHeld ⊢
    refine take_ (i := 0) (N := some 27) (v := ?_) (a' := ?_) #[true, false, false, false, false] rfl rfl (by kernel_rfl) (fun _ _ _ h => h) (Or.inl ⟨by rfl, ?_⟩) hHeld ?_ ?_
    rotate_left
    · rintro w' ⟨s0, s1, s2, s3, s4, s5⟩
      go_simp
      with_reducible rfl
    rotate_left
    · simp only [Act.put, List.setIfInBounds_toArray, List.set_cons_zero, List.set_cons_succ, i64_w, i32_w]
      rfl
    refine take_ (i := 1) (N := some 28) (v := ?_) (a' := ?_) #[true, true, false, false, false] rfl rfl (by kernel_rfl) (fun _ _ _ h => h) (Or.inl ⟨by rfl, ?_⟩) hHeld ?_ ?_
    rotate_left
    · rintro w' ⟨s0, s1, s2, s3, s4, s5⟩
      go_simp
      with_reducible rfl
    rotate_left
    · simp only [Act.put, List.setIfInBounds_toArray, List.set_cons_zero, List.set_cons_succ, i64_w, i32_w]
      rfl
    refine one_ (i := 2) (N := some 29) #[true, true, true, false, false] rfl rfl (by kernel_rfl) (by decide) (fun K hK => ?_)
    refine goes_ Try.func44 (by kernel_rfl) rfl #[.agg #[.slice A0_0 l0_0.length c0_0, .slice A0_1 l0_1.length c0_1, .int .i64 a0_2]] (by rfl) rfl rfl (by (try simp only [List.map_toArray, List.map_cons, List.map_nil]); first | done | rfl | (simp only [List.length_drop, List.length_take]; rfl)) ?_
    (with_reducible refine (laws_toStore.calls k _ _ l0_0 _ _ l0_1 a0_2 t26 t27 t28 _ ?side1 ?side2 ?side3 ?side4 Fa8.out).mono ?_)
    (case side1 => exact Kd.C_below HR0_0.out HB.out)
    (case side2 => exact HC0_0.out)
    (case side3 => exact Kd.C_below HR0_1.out HB.out)
    (case side4 => exact HC0_1.out)
    rintro e w106 ⟨v29, v30, rfl, ho0, ho1, hb⟩
    refine ⟨_, rfl, ?_⟩
    obtain ⟨TA107, TB107, hap107, ho0, ho1⟩ := Kd.two_apart ho0 ho1 (by decide)
    have DD107 := Aside0.mk hap107
    clear hap107
    have HZ29 := Aside0.mk (Kd.R_lower (Kd.R_mono (ok' := fun k_ => ((w105.heap.size ≤ k_ ∧ k_ < w106.heap.size) ∧ TA107 k_)) (Kd.R_bound ho0) (fun k_ hk_ => hk_.1)) (below_size HB.out))
    clear ho0
    have HZ30 := Aside0.mk (Kd.S_lower (Kd.S_mono (ok' := fun k_ => ((w105.heap.size ≤ k_ ∧ k_ < w106.heap.size) ∧ TB107 k_)) (Kd.S_bound ho1) (fun k_ hk_ => hk_.1)) (below_size HB.out))
    clear ho1
    replace HZ8 := Aside0.mk (Kd.R_below HZ8.out hb)
    replace HZ9 := Aside0.mk (Kd.S_below HZ9.out hb)
    replace HZ12 := Aside0.mk (Kd.R_below HZ12.out hb)
    replace HZ17 := Aside0.mk (Kd.R_below HZ17.out hb)
    replace HZ18 := Aside0.mk (Kd.S_below HZ18.out hb)
    replace HZ22 := Aside0.mk (Kd.R_below HZ22.out hb)
    replace BK1 := Aside0.mk (blk_below BK1.out hb)
    replace BK19 := Aside0.mk (blk_below BK19.out hb)
    replace HB := Aside0.mk (below_step HB.out hb)
    replace HL := Aside0.mk (And.intro HL.out (below_size hb))
    clear hb
    obtain ⟨A29, c29, e29⟩ := Kd.R_slice HZ29.out
    subst e29
    obtain ⟨A30, c30, e30⟩ := Kd.S_slice HZ30.out
    subst e30
    refine hK.out _ _ ⟨(blk_cell BK19.out 0).trans rfl, (blk_cell BK19.out 1).trans rfl, (blk_cell BK19.out 2).trans rfl, (blk_cell BK1.out 0).trans rfl, (blk_cell BK1.out 1).trans rfl, (blk_cell BK1.out 2).trans rfl⟩ (fun hHeld => ?_)
    clear hK K
    refine norm_ (a' := ?_) ?_ ?_
    rotate_left
    · show Act.put _ (some 29) _ = _
      simp only [Act.put, List.setIfInBounds_toArray, List.set_cons_zero, List.set_cons_succ, i64_w, i32_w]
      rfl
    refine one_ (i := 3) (N := some 30) #[true, true, true, true, false] rfl rfl (by kernel_rfl) (by decide) (fun K hK => ?_)
    refine goes_ Try.func12 (by kernel_rfl) rfl #[.agg #[.slice A17 t14.length c17, .slice A18 t15.length c18, .int .i64 t16], .agg #[.slice A29 t26.length c29, .slice A30 t27.length c30, .int .i64 t28]] (by rfl) rfl rfl (by (try simp only [List.map_toArray, List.map_cons, List.map_nil]); first | done | rfl | (simp only [List.length_drop, List.length_take]; rfl)) ?_
    (with_reducible refine (laws_eqStore.calls k _ _ t14 _ _ t15 t16 _ _ t26 _ _ t27 t28 true _ ?side1 ?side2 ?side3 ?side4 ?side5 ?side6 ?side7 ?side8 Fa9.out).mono ?_)
    (case side1 => exact (Kd.R_reads' HZ17.out).2.2)
    (case side2 => exact (Kd.R_reads' HZ17.out).2.1)
    (case side3 => exact (Kd.S_reads' HZ18.out).2.2)
    (case side4 => exact (Kd.S_reads' HZ18.out).2.1)
    (case side5 => exact (Kd.R_reads' HZ29.out).2.2)
    (case side6 => exact (Kd.R_reads' HZ29.out).2.1)
    (case side7 => exact (Kd.S_reads' HZ30.out).2.2)
    (case side8 => exact (Kd.S_reads' HZ30.out).2.1)
    rintro e w108 ⟨rfl, hb⟩
    refine ⟨_, rfl, ?_⟩
    replace HZ8 := Aside0.mk (Kd.R_below HZ8.out hb)
    replace HZ9 := Aside0.mk (Kd.S_below HZ9.out hb)
    replace HZ12 := Aside0.mk (Kd.R_below HZ12.out hb)
    replace HZ17 := Aside0.mk (Kd.R_below HZ17.out hb)
    replace HZ18 := Aside0.mk (Kd.S_below HZ18.out hb)
    replace HZ22 := Aside0.mk (Kd.R_below HZ22.out hb)
    replace HZ29 := Aside0.mk (Kd.R_below HZ29.out hb)
    replace HZ30 := Aside0.mk (Kd.S_below HZ30.out hb)
    replace BK1 := Aside0.mk (blk_below BK1.out hb)
    replace BK19 := Aside0.mk (blk_below BK19.out hb)
    replace HB := Aside0.mk (below_step HB.out hb)
    replace HL := Aside0.mk (And.intro HL.out (below_size hb))
    clear hb
    refine hK.out _ _ ⟨(blk_cell BK19.out 0).trans rfl, (blk_cell BK19.out 1).trans rfl, (blk_cell BK19.out 2).trans rfl, (blk_cell BK1.out 0).trans rfl, (blk_cell BK1.out 1).trans rfl, (blk_cell BK1.out 2).trans rfl⟩ (fun hHeld => ?_)
    clear hK K
    refine norm_ (a' := ?_) ?_ ?_
    rotate_left
    · show Act.put _ (some 30) _ = _
      simp only [Act.put, List.setIfInBounds_toArray, List.set_cons_zero, List.set_cons_succ, i64_w, i32_w]
      rfl
    refine pure_ (i := 4) (N := some 31) (v := ?_) (a' := ?_) #[true, true, true, true, true] rfl rfl (by kernel_rfl) (fun _ _ _ h => h) (Or.inl ⟨by rfl, ?_⟩) ?_ ?_
    rotate_left
    · intro w'
      go_simp
      with_reducible rfl
    rotate_left
    · simp only [Act.put, List.setIfInBounds_toArray, List.set_cons_zero, List.set_cons_succ, i64_w, i32_w]
      rfl
    refine done_ (by kernel_rfl) ?_
    have hcz109 : w108.cell? ⟨gb1, 0, none⟩ = some (.slice A0_0 l0_0.length c0_0) := (blk_cell BK1.out 0).trans rfl
    have hfz110 := blk_frozen BK1.out 0
    have hcz111 : w108.cell? ⟨gb1, 1, none⟩ = some (.slice A0_1 l0_1.length c0_1) := (blk_cell BK1.out 1).trans rfl
    have hfz112 := blk_frozen BK1.out 1
    have hcz113 : w108.cell? ⟨gb1, 2, none⟩ = some (.int .i64 a0_2) := (blk_cell BK1.out 2).trans rfl
    have hfz114 := blk_frozen BK1.out 2
    have hcz115 : w108.cell? ⟨gb19, 0, none⟩ = some (.slice A17 t14.length c17) := (blk_cell BK19.out 0).trans rfl
    have hfz116 := blk_frozen BK19.out 0
    have hcz117 : w108.cell? ⟨gb19, 1, none⟩ = some (.slice A18 t15.length c18) := (blk_cell BK19.out 1).trans rfl
    have hfz118 := blk_frozen BK19.out 1
    have hcz119 : w108.cell? ⟨gb19, 2, none⟩ = some (.int .i64 t16) := (blk_cell BK19.out 2).trans rfl
    have hfz120 := blk_frozen BK19.out 2
    go_wp2_with (first | ((with_reducible refine gate_callee (f := 13) rfl ?_); refine goesL_ (some 34) rfl rfl Try.func13 (by kernel_rfl) rfl #[.agg #[.slice A17 t14.length c17, .slice A18 t15.length c18, .int .i64 t16], .int .i64 1] rfl (by (try simp only [List.map_toArray, List.map_cons, List.map_nil]); first | done | rfl | (simp only [List.length_drop, List.length_take]; rfl)) ?_; (with_reducible refine (laws_markStore.calls k (fun k_ => ((w37.heap.size ≤ k_ ∧ k_ < w44.heap.size) ∧ TA45 k_)) _ t14 (fun k_ => ((w37.heap.size ≤ k_ ∧ k_ < w44.heap.size) ∧ TB45 k_)) _ t15 t16 1 t34 t35 t36 w _ HB.out (fun k_ (h1_ : ((w37.heap.size ≤ k_ ∧ k_ < w44.heap.size) ∧ TA45 k_)) (h2_ : ((w37.heap.size ≤ k_ ∧ k_ < w44.heap.size) ∧ TB45 k_)) => by have q_ := HL.out; first | omega | exact DD30.out k_ h1_.2 h2_.2 | exact DD45.out k_ h1_.2 h2_.2 | exact DD107.out k_ h1_.2 h2_.2) HZ17.out HZ18.out Fa11.out).mono ?_); rintro e w121 ⟨rfl, hy0, hy1, hb0, hk⟩; refine ⟨_, rfl, ?_⟩; have ny0_ := Aside0.mk (Kd.R_mono (ok' := fun k_ => (((w37.heap.size ≤ k_ ∧ k_ < w44.heap.size) ∧ TA45 k_) ∨ (w108.heap.size ≤ k_ ∧ k_ < w121.heap.size))) (Kd.R_bound hy0) (fun k_ hk_ => hk_.1.imp id (fun h_ => ⟨h_, hk_.2.2.1⟩))); have ny1_ := Aside0.mk (Kd.S_mono (ok' := fun k_ => (((w37.heap.size ≤ k_ ∧ k_ < w44.heap.size) ∧ TB45 k_) ∨ (w108.heap.size ≤ k_ ∧ k_ < w121.heap.size))) (Kd.S_bound hy1) (fun k_ hk_ => hk_.1.imp id (fun h_ => ⟨h_, hk_.2.2.1⟩))); replace HZ8 := Aside0.mk (Kd.R_kept HZ8.out hk (fun k_ (hk_ : ((w22.heap.size ≤ k_ ∧ k_ < w29.heap.size) ∧ TA30 k_)) (hs_ : (((w37.heap.size ≤ k_ ∧ k_ < w44.heap.size) ∧ TA45 k_) ∨ ((w37.heap.size ≤ k_ ∧ k_ < w44.heap.size) ∧ TB45 k_))) => by have q_ := HL.out; first | omega | exact DD30.out k_ hk_.2 hs_.2 | exact DD30.out k_ hs_.2 hk_.2 | exact DD45.out k_ hk_.2 hs_.2 | exact DD45.out k_ hs_.2 hk_.2 | exact DD107.out k_ hk_.2 hs_.2 | exact DD107.out k_ hs_.2 hk_.2 | (rcases hk_ with hk_ | hk_ <;> first | omega | exact DD30.out k_ hk_.2 hs_.2 | exact DD30.out k_ hs_.2 hk_.2 | exact DD45.out k_ hk_.2 hs_.2 | exact DD45.out k_ hs_.2 hk_.2 | exact DD107.out k_ hk_.2 hs_.2 | exact DD107.out k_ hs_.2 hk_.2) | (rcases hs_ with hs_ | hs_ <;> first | omega | exact DD30.out k_ hk_.2 hs_.2 | exact DD30.out k_ hs_.2 hk_.2 | exact DD45.out k_ hk_.2 hs_.2 | exact DD45.out k_ hs_.2 hk_.2 | exact DD107.out k_ hk_.2 hs_.2 | exact DD107.out k_ hs_.2 hk_.2))); replace HZ9 := Aside0.mk (Kd.S_kept HZ9.out hk (fun k_ (hk_ : ((w22.heap.size ≤ k_ ∧ k_ < w29.heap.size) ∧ TB30 k_)) (hs_ : (((w37.heap.size ≤ k_ ∧ k_ < w44.heap.size) ∧ TA45 k_) ∨ ((w37.heap.size ≤ k_ ∧ k_ < w44.heap.size) ∧ TB45 k_))) => by have q_ := HL.out; first | omega | exact DD30.out k_ hk_.2 hs_.2 | exact DD30.out k_ hs_.2 hk_.2 | exact DD45.out k_ hk_.2 hs_.2 | exact DD45.out k_ hs_.2 hk_.2 | exact DD107.out k_ hk_.2 hs_.2 | exact DD107.out k_ hs_.2 hk_.2 | (rcases hk_ with hk_ | hk_ <;> first | omega | exact DD30.out k_ hk_.2 hs_.2 | exact DD30.out k_ hs_.2 hk_.2 | exact DD45.out k_ hk_.2 hs_.2 | exact DD45.out k_ hs_.2 hk_.2 | exact DD107.out k_ hk_.2 hs_.2 | exact DD107.out k_ hs_.2 hk_.2) | (rcases hs_ with hs_ | hs_ <;> first | omega | exact DD30.out k_ hk_.2 hs_.2 | exact DD30.out k_ hs_.2 hk_.2 | exact DD45.out k_ hk_.2 hs_.2 | exact DD45.out k_ hs_.2 hk_.2 | exact DD107.out k_ hk_.2 hs_.2 | exact DD107.out k_ hs_.2 hk_.2))); replace HZ12 := Aside0.mk (Kd.R_kept HZ12.out hk (fun k_ (hk_ : (w29.heap.size ≤ k_ ∧ k_ < w37.heap.size)) (hs_ : (((w37.heap.size ≤ k_ ∧ k_ < w44.heap.size) ∧ TA45 k_) ∨ ((w37.heap.size ≤ k_ ∧ k_ < w44.heap.size) ∧ TB45 k_))) => by have q_ := HL.out; first | omega | exact DD30.out k_ hk_.2 hs_.2 | exact DD30.out k_ hs_.2 hk_.2 | exact DD45.out k_ hk_.2 hs_.2 | exact DD45.out k_ hs_.2 hk_.2 | exact DD107.out k_ hk_.2 hs_.2 | exact DD107.out k_ hs_.2 hk_.2 | (rcases hk_ with hk_ | hk_ <;> first | omega | exact DD30.out k_ hk_.2 hs_.2 | exact DD30.out k_ hs_.2 hk_.2 | exact DD45.out k_ hk_.2 hs_.2 | exact DD45.out k_ hs_.2 hk_.2 | exact DD107.out k_ hk_.2 hs_.2 | exact DD107.out k_ hs_.2 hk_.2) | (rcases hs_ with hs_ | hs_ <;> first | omega | exact DD30.out k_ hk_.2 hs_.2 | exact DD30.out k_ hs_.2 hk_.2 | exact DD45.out k_ hk_.2 hs_.2 | exact DD45.out k_ hs_.2 hk_.2 | exact DD107.out k_ hk_.2 hs_.2 | exact DD107.out k_ hs_.2 hk_.2))); replace HZ22 := Aside0.mk (Kd.R_kept HZ22.out hk (fun k_ (hk_ : (w65.heap.size ≤ k_ ∧ k_ < w79.heap.size)) (hs_ : (((w37.heap.size ≤ k_ ∧ k_ < w44.heap.size) ∧ TA45 k_) ∨ ((w37.heap.size ≤ k_ ∧ k_ < w44.heap.size) ∧ TB45 k_))) => by have q_ := HL.out; first | omega | exact DD30.out k_ hk_.2 hs_.2 | exact DD30.out k_ hs_.2 hk_.2 | exact DD45.out k_ hk_.2 hs_.2 | exact DD45.out k_ hs_.2 hk_.2 | exact DD107.out k_ hk_.2 hs_.2 | exact DD107.out k_ hs_.2 hk_.2 | (rcases hk_ with hk_ | hk_ <;> first | omega | exact DD30.out k_ hk_.2 hs_.2 | exact DD30.out k_ hs_.2 hk_.2 | exact DD45.out k_ hk_.2 hs_.2 | exact DD45.out k_ hs_.2 hk_.2 | exact DD107.out k_ hk_.2 hs_.2 | exact DD107.out k_ hs_.2 hk_.2) | (rcases hs_ with hs_ | hs_ <;> first | omega | exact DD30.out k_ hk_.2 hs_.2 | exact DD30.out k_ hs_.2 hk_.2 | exact DD45.out k_ hk_.2 hs_.2 | exact DD45.out k_ hs_.2 hk_.2 | exact DD107.out k_ hk_.2 hs_.2 | exact DD107.out k_ hs_.2 hk_.2))); replace HZ29 := Aside0.mk (Kd.R_kept HZ29.out hk (fun k_ (hk_ : ((w105.heap.size ≤ k_ ∧ k_ < w106.heap.size) ∧ TA107 k_)) (hs_ : (((w37.heap.size ≤ k_ ∧ k_ < w44.heap.size) ∧ TA45 k_) ∨ ((w37.heap.size ≤ k_ ∧ k_ < w44.heap.size) ∧ TB45 k_))) => by have q_ := HL.out; first | omega | exact DD30.out k_ hk_.2 hs_.2 | exact DD30.out k_ hs_.2 hk_.2 | exact DD45.out k_ hk_.2 hs_.2 | exact DD45.out k_ hs_.2 hk_.2 | exact DD107.out k_ hk_.2 hs_.2 | exact DD107.out k_ hs_.2 hk_.2 | (rcases hk_ with hk_ | hk_ <;> first | omega | exact DD30.out k_ hk_.2 hs_.2 | exact DD30.out k_ hs_.2 hk_.2 | exact DD45.out k_ hk_.2 hs_.2 | exact DD45.out k_ hs_.2 hk_.2 | exact DD107.out k_ hk_.2 hs_.2 | exact DD107.out k_ hs_.2 hk_.2) | (rcases hs_ with hs_ | hs_ <;> first | omega | exact DD30.out k_ hk_.2 hs_.2 | exact DD30.out k_ hs_.2 hk_.2 | exact DD45.out k_ hk_.2 hs_.2 | exact DD45.out k_ hs_.2 hk_.2 | exact DD107.out k_ hk_.2 hs_.2 | exact DD107.out k_ hs_.2 hk_.2))); replace HZ30 := Aside0.mk (Kd.S_kept HZ30.out hk (fun k_ (hk_ : ((w105.heap.size ≤ k_ ∧ k_ < w106.heap.size) ∧ TB107 k_)) (hs_ : (((w37.heap.size ≤ k_ ∧ k_ < w44.heap.size) ∧ TA45 k_) ∨ ((w37.heap.size ≤ k_ ∧ k_ < w44.heap.size) ∧ TB45 k_))) => by have q_ := HL.out; first | omega | exact DD30.out k_ hk_.2 hs_.2 | exact DD30.out k_ hs_.2 hk_.2 | exact DD45.out k_ hk_.2 hs_.2 | exact DD45.out k_ hs_.2 hk_.2 | exact DD107.out k_ hk_.2 hs_.2 | exact DD107.out k_ hs_.2 hk_.2 | (rcases hk_ with hk_ | hk_ <;> first | omega | exact DD30.out k_ hk_.2 hs_.2 | exact DD30.out k_ hs_.2 hk_.2 | exact DD45.out k_ hk_.2 hs_.2 | exact DD45.out k_ hs_.2 hk_.2 | exact DD107.out k_ hk_.2 hs_.2 | exact DD107.out k_ hs_.2 hk_.2) | (rcases hs_ with hs_ | hs_ <;> first | omega | exact DD30.out k_ hk_.2 hs_.2 | exact DD30.out k_ hs_.2 hk_.2 | exact DD45.out k_ hk_.2 hs_.2 | exact DD45.out k_ hs_.2 hk_.2 | exact DD107.out k_ hk_.2 hs_.2 | exact DD107.out k_ hs_.2 hk_.2))); replace BK1 := Aside0.mk (blk_kept BK1.out hk (fun hs_ => by have q_ := HL.out; have g_ := GBK1.out; have hs2_ : (((w37.heap.size ≤ gb1 ∧ gb1 < w44.heap.size) ∧ TA45 gb1) ∨ ((w37.heap.size ≤ gb1 ∧ gb1 < w44.heap.size) ∧ TB45 gb1)) := hs_; omega)); replace BK19 := Aside0.mk (blk_kept BK19.out hk (fun hs_ => by have q_ := HL.out; have g_ := GBK19.out; have hs2_ : (((w37.heap.size ≤ gb19 ∧ gb19 < w44.heap.size) ∧ TA45 gb19) ∨ ((w37.heap.size ≤ gb19 ∧ gb19 < w44.heap.size) ∧ TB45 gb19)) := hs_; omega)); replace HZ17 := ny0_; clear ny0_; replace HZ18 := ny1_; clear ny1_; replace HB := Aside0.mk hb0; replace HL := Aside0.mk (And.intro HL.out hk.1); clear hb0 hk hy0 hy1; clear hcz109 hfz110 hcz111 hfz112 hcz113 hfz114 hcz115 hfz116 hcz117 hfz118 hcz119 hfz120; have hcz122 : w121.cell? ⟨gb1, 0, none⟩ = some (.slice A0_0 l0_0.length c0_0) := (blk_cell BK1.out 0).trans rfl; have hfz123 := blk_frozen BK1.out 0; have hcz124 : w121.cell? ⟨gb1, 1, none⟩ = some (.slice A0_1 l0_1.length c0_1) := (blk_cell BK1.out 1).trans rfl; have hfz125 := blk_frozen BK1.out 1; have hcz126 : w121.cell? ⟨gb1, 2, none⟩ = some (.int .i64 a0_2) := (blk_cell BK1.out 2).trans rfl; have hfz127 := blk_frozen BK1.out 2; have hcz128 : w121.cell? ⟨gb19, 0, none⟩ = some (.slice A17 t14.length c17) := (blk_cell BK19.out 0).trans rfl; have hfz129 := blk_frozen BK19.out 0; have hcz130 : w121.cell? ⟨gb19, 1, none⟩ = some (.slice A18 t15.length c18) := (blk_cell BK19.out 1).trans rfl; have hfz131 := blk_frozen BK19.out 1; have hcz132 : w121.cell? ⟨gb19, 2, none⟩ = some (.int .i64 t16) := (blk_cell BK19.out 2).trans rfl; have hfz133 := blk_frozen BK19.out 2) | (go_at_call 46; (with_reducible show Calls _ _ _ w121 _); (with_reducible refine (laws_eqRecS.calls k _ _ t21 _ _ t11 true _ ?side1 ?side2 ?side3 ?side4 Fa12.out).mono ?_); (case side1 => exact (Kd.R_reads' HZ22.out).2.2); (case side2 => exact (Kd.R_reads' HZ22.out).2.1); (case side3 => exact (Kd.R_reads' HZ12.out).2.2); (case side4 => exact (Kd.R_reads' HZ12.out).2.1); rintro e w134 ⟨rfl, hb⟩; replace HZ8 := Aside0.mk (Kd.R_below HZ8.out hb); replace HZ9 := Aside0.mk (Kd.S_below HZ9.out hb); replace HZ12 := Aside0.mk (Kd.R_below HZ12.out hb); replace HZ17 := Aside0.mk (Kd.R_below HZ17.out hb); replace HZ18 := Aside0.mk (Kd.S_below HZ18.out hb); replace HZ22 := Aside0.mk (Kd.R_below HZ22.out hb); replace HZ29 := Aside0.mk (Kd.R_below HZ29.out hb); replace HZ30 := Aside0.mk (Kd.S_below HZ30.out hb); replace BK1 := Aside0.mk (blk_below BK1.out hb); replace BK19 := Aside0.mk (blk_below BK19.out hb); replace HB := Aside0.mk (below_step HB.out hb); replace HL := Aside0.mk (And.intro HL.out (below_size hb)); clear hb; clear hcz122 hfz123 hcz124 hfz125 hcz126 hfz127 hcz128 hfz129 hcz130 hfz131 hcz132 hfz133; have hcz135 : w134.cell? ⟨gb1, 0, none⟩ = some (.slice A0_0 l0_0.length c0_0) := (blk_cell BK1.out 0).trans rfl; have hfz136 := blk_frozen BK1.out 0; have hcz137 : w134.cell? ⟨gb1, 1, none⟩ = some (.slice A0_1 l0_1.length c0_1) := (blk_cell BK1.out 1).trans rfl; have hfz138 := blk_frozen BK1.out 1; have hcz139 : w134.cell? ⟨gb1, 2, none⟩ = some (.int .i64 a0_2) := (blk_cell BK1.out 2).trans rfl; have hfz140 := blk_frozen BK1.out 2; have hcz141 : w134.cell? ⟨gb19, 0, none⟩ = some (.slice A17 t14.length c17) := (blk_cell BK19.out 0).trans rfl; have hfz142 := blk_frozen BK19.out 0; have hcz143 : w134.cell? ⟨gb19, 1, none⟩ = some (.slice A18 t15.length c18) := (blk_cell BK19.out 1).trans rfl; have hfz144 := blk_frozen BK19.out 1; have hcz145 : w134.cell? ⟨gb19, 2, none⟩ = some (.int .i64 t16) := (blk_cell BK19.out 2).trans rfl; have hfz146 := blk_frozen BK19.out 2) | ((with_reducible refine gate_callee (f := 47) rfl ?_); refine goesL_ (some 45) rfl rfl Try.func47 (by kernel_rfl) rfl #[.slice A22 t21.length c22, .int .i64 1] rfl (by (try simp only [List.map_toArray, List.map_cons, List.map_nil]); first | done | rfl | (simp only [List.length_drop, List.length_take]; rfl)) ?_; (with_reducible refine (laws_markRecS.calls k (fun k_ => (w65.heap.size ≤ k_ ∧ k_ < w79.heap.size)) _ t21 1 t40 t41 w _ HB.out HZ22.out Fa15.out).mono ?_); rintro e w147 ⟨rfl, hy0, hb0, hk⟩; refine ⟨_, rfl, ?_⟩; have ny0_ := Aside0.mk (Kd.R_mono (ok' := fun k_ => ((w65.heap.size ≤ k_ ∧ k_ < w79.heap.size) ∨ (w134.heap.size ≤ k_ ∧ k_ < w147.heap.size))) (Kd.R_bound hy0) (fun k_ hk_ => hk_.1.imp id (fun h_ => ⟨h_, hk_.2.2.1⟩))); replace HZ8 := Aside0.mk (Kd.R_kept HZ8.out hk (fun k_ (hk_ : ((w22.heap.size ≤ k_ ∧ k_ < w29.heap.size) ∧ TA30 k_)) (hs_ : (w65.heap.size ≤ k_ ∧ k_ < w79.heap.size)) => by have q_ := HL.out; first | omega | exact DD30.out k_ hk_.2 hs_.2 | exact DD30.out k_ hs_.2 hk_.2 | exact DD45.out k_ hk_.2 hs_.2 | exact DD45.out k_ hs_.2 hk_.2 | exact DD107.out k_ hk_.2 hs_.2 | exact DD107.out k_ hs_.2 hk_.2 | (rcases hk_ with hk_ | hk_ <;> first | omega | exact DD30.out k_ hk_.2 hs_.2 | exact DD30.out k_ hs_.2 hk_.2 | exact DD45.out k_ hk_.2 hs_.2 | exact DD45.out k_ hs_.2 hk_.2 | exact DD107.out k_ hk_.2 hs_.2 | exact DD107.out k_ hs_.2 hk_.2) | (rcases hs_ with hs_ | hs_ <;> first | omega | exact DD30.out k_ hk_.2 hs_.2 | exact DD30.out k_ hs_.2 hk_.2 | exact DD45.out k_ hk_.2 hs_.2 | exact DD45.out k_ hs_.2 hk_.2 | exact DD107.out k_ hk_.2 hs_.2 | exact DD107.out k_ hs_.2 hk_.2))); replace HZ9 := Aside0.mk (Kd.S_kept HZ9.out hk (fun k_ (hk_ : ((w22.heap.size ≤ k_ ∧ k_ < w29.heap.size) ∧ TB30 k_)) (hs_ : (w65.heap.size ≤ k_ ∧ k_ < w79.heap.size)) => by have q_ := HL.out; first | omega | exact DD30.out k_ hk_.2 hs_.2 | exact DD30.out k_ hs_.2 hk_.2 | exact DD45.out k_ hk_.2 hs_.2 | exact DD45.out k_ hs_.2 hk_.2 | exact DD107.out k_ hk_.2 hs_.2 | exact DD107.out k_ hs_.2 hk_.2 | (rcases hk_ with hk_ | hk_ <;> first | omega | exact DD30.out k_ hk_.2 hs_.2 | exact DD30.out k_ hs_.2 hk_.2 | exact DD45.out k_ hk_.2 hs_.2 | exact DD45.out k_ hs_.2 hk_.2 | exact DD107.out k_ hk_.2 hs_.2 | exact DD107.out k_ hs_.2 hk_.2) | (rcases hs_ with hs_ | hs_ <;> first | omega | exact DD30.out k_ hk_.2 hs_.2 | exact DD30.out k_ hs_.2 hk_.2 | exact DD45.out k_ hk_.2 hs_.2 | exact DD45.out k_ hs_.2 hk_.2 | exact DD107.out k_ hk_.2 hs_.2 | exact DD107.out k_ hs_.2 hk_.2))); replace HZ12 := Aside0.mk (Kd.R_kept HZ12.out hk (fun k_ (hk_ : (w29.heap.size ≤ k_ ∧ k_ < w37.heap.size)) (hs_ : (w65.heap.size ≤ k_ ∧ k_ < w79.heap.size)) => by have q_ := HL.out; first | omega | exact DD30.out k_ hk_.2 hs_.2 | exact DD30.out k_ hs_.2 hk_.2 | exact DD45.out k_ hk_.2 hs_.2 | exact DD45.out k_ hs_.2 hk_.2 | exact DD107.out k_ hk_.2 hs_.2 | exact DD107.out k_ hs_.2 hk_.2 | (rcases hk_ with hk_ | hk_ <;> first | omega | exact DD30.out k_ hk_.2 hs_.2 | exact DD30.out k_ hs_.2 hk_.2 | exact DD45.out k_ hk_.2 hs_.2 | exact DD45.out k_ hs_.2 hk_.2 | exact DD107.out k_ hk_.2 hs_.2 | exact DD107.out k_ hs_.2 hk_.2) | (rcases hs_ with hs_ | hs_ <;> first | omega | exact DD30.out k_ hk_.2 hs_.2 | exact DD30.out k_ hs_.2 hk_.2 | exact DD45.out k_ hk_.2 hs_.2 | exact DD45.out k_ hs_.2 hk_.2 | exact DD107.out k_ hk_.2 hs_.2 | exact DD107.out k_ hs_.2 hk_.2))); replace HZ17 := Aside0.mk (Kd.R_kept HZ17.out hk (fun k_ (hk_ : (((w37.heap.size ≤ k_ ∧ k_ < w44.heap.size) ∧ TA45 k_) ∨ (w108.heap.size ≤ k_ ∧ k_ < w121.heap.size))) (hs_ : (w65.heap.size ≤ k_ ∧ k_ < w79.heap.size)) => by have q_ := HL.out; first | omega | exact DD30.out k_ hk_.2 hs_.2 | exact DD30.out k_ hs_.2 hk_.2 | exact DD45.out k_ hk_.2 hs_.2 | exact DD45.out k_ hs_.2 hk_.2 | exact DD107.out k_ hk_.2 hs_.2 | exact DD107.out k_ hs_.2 hk_.2 | (rcases hk_ with hk_ | hk_ <;> first | omega | exact DD30.out k_ hk_.2 hs_.2 | exact DD30.out k_ hs_.2 hk_.2 | exact DD45.out k_ hk_.2 hs_.2 | exact DD45.out k_ hs_.2 hk_.2 | exact DD107.out k_ hk_.2 hs_.2 | exact DD107.out k_ hs_.2 hk_.2) | (rcases hs_ with hs_ | hs_ <;> first | omega | exact DD30.out k_ hk_.2 hs_.2 | exact DD30.out k_ hs_.2 hk_.2 | exact DD45.out k_ hk_.2 hs_.2 | exact DD45.out k_ hs_.2 hk_.2 | exact DD107.out k_ hk_.2 hs_.2 | exact DD107.out k_ hs_.2 hk_.2))); replace HZ18 := Aside0.mk (Kd.S_kept HZ18.out hk (fun k_ (hk_ : (((w37.heap.size ≤ k_ ∧ k_ < w44.heap.size) ∧ TB45 k_) ∨ (w108.heap.size ≤ k_ ∧ k_ < w121.heap.size))) (hs_ : (w65.heap.size ≤ k_ ∧ k_ < w79.heap.size)) => by have q_ := HL.out; first | omega | exact DD30.out k_ hk_.2 hs_.2 | exact DD30.out k_ hs_.2 hk_.2 | exact DD45.out k_ hk_.2 hs_.2 | exact DD45.out k_ hs_.2 hk_.2 | exact DD107.out k_ hk_.2 hs_.2 | exact DD107.out k_ hs_.2 hk_.2 | (rcases hk_ with hk_ | hk_ <;> first | omega | exact DD30.out k_ hk_.2 hs_.2 | exact DD30.out k_ hs_.2 hk_.2 | exact DD45.out k_ hk_.2 hs_.2 | exact DD45.out k_ hs_.2 hk_.2 | exact DD107.out k_ hk_.2 hs_.2 | exact DD107.out k_ hs_.2 hk_.2) | (rcases hs_ with hs_ | hs_ <;> first | omega | exact DD30.out k_ hk_.2 hs_.2 | exact DD30.out k_ hs_.2 hk_.2 | exact DD45.out k_ hk_.2 hs_.2 | exact DD45.out k_ hs_.2 hk_.2 | exact DD107.out k_ hk_.2 hs_.2 | exact DD107.out k_ hs_.2 hk_.2))); replace HZ29 := Aside0.mk (Kd.R_kept HZ29.out hk (fun k_ (hk_ : ((w105.heap.size ≤ k_ ∧ k_ < w106.heap.size) ∧ TA107 k_)) (hs_ : (w65.heap.size ≤ k_ ∧ k_ < w79.heap.size)) => by have q_ := HL.out; first | omega | exact DD30.out k_ hk_.2 hs_.2 | exact DD30.out k_ hs_.2 hk_.2 | exact DD45.out k_ hk_.2 hs_.2 | exact DD45.out k_ hs_.2 hk_.2 | exact DD107.out k_ hk_.2 hs_.2 | exact DD107.out k_ hs_.2 hk_.2 | (rcases hk_ with hk_ | hk_ <;> first | omega | exact DD30.out k_ hk_.2 hs_.2 | exact DD30.out k_ hs_.2 hk_.2 | exact DD45.out k_ hk_.2 hs_.2 | exact DD45.out k_ hs_.2 hk_.2 | exact DD107.out k_ hk_.2 hs_.2 | exact DD107.out k_ hs_.2 hk_.2) | (rcases hs_ with hs_ | hs_ <;> first | omega | exact DD30.out k_ hk_.2 hs_.2 | exact DD30.out k_ hs_.2 hk_.2 | exact DD45.out k_ hk_.2 hs_.2 | exact DD45.out k_ hs_.2 hk_.2 | exact DD107.out k_ hk_.2 hs_.2 | exact DD107.out k_ hs_.2 hk_.2))); replace HZ30 := Aside0.mk (Kd.S_kept HZ30.out hk (fun k_ (hk_ : ((w105.heap.size ≤ k_ ∧ k_ < w106.heap.size) ∧ TB107 k_)) (hs_ : (w65.heap.size ≤ k_ ∧ k_ < w79.heap.size)) => by have q_ := HL.out; first | omega | exact DD30.out k_ hk_.2 hs_.2 | exact DD30.out k_ hs_.2 hk_.2 | exact DD45.out k_ hk_.2 hs_.2 | exact DD45.out k_ hs_.2 hk_.2 | exact DD107.out k_ hk_.2 hs_.2 | exact DD107.out k_ hs_.2 hk_.2 | (rcases hk_ with hk_ | hk_ <;> first | omega | exact DD30.out k_ hk_.2 hs_.2 | exact DD30.out k_ hs_.2 hk_.2 | exact DD45.out k_ hk_.2 hs_.2 | exact DD45.out k_ hs_.2 hk_.2 | exact DD107.out k_ hk_.2 hs_.2 | exact DD107.out k_ hs_.2 hk_.2) | (rcases hs_ with hs_ | hs_ <;> first | omega | exact DD30.out k_ hk_.2 hs_.2 | exact DD30.out k_ hs_.2 hk_.2 | exact DD45.out k_ hk_.2 hs_.2 | exact DD45.out k_ hs_.2 hk_.2 | exact DD107.out k_ hk_.2 hs_.2 | exact DD107.out k_ hs_.2 hk_.2))); replace BK1 := Aside0.mk (blk_kept BK1.out hk (fun hs_ => by have q_ := HL.out; have g_ := GBK1.out; have hs2_ : (w65.heap.size ≤ gb1 ∧ gb1 < w79.heap.size) := hs_; omega)); replace BK19 := Aside0.mk (blk_kept BK19.out hk (fun hs_ => by have q_ := HL.out; have g_ := GBK19.out; have hs2_ : (w65.heap.size ≤ gb19 ∧ gb19 < w79.heap.size) := hs_; omega)); replace HZ22 := ny0_; clear ny0_; replace HB := Aside0.mk hb0; replace HL := Aside0.mk (And.intro HL.out hk.1); clear hb0 hk hy0; clear hcz135 hfz136 hcz137 hfz138 hcz139 hfz140 hcz141 hfz142 hcz143 hfz144 hcz145 hfz146; have hcz148 : w147.cell? ⟨gb1, 0, none⟩ = some (.slice A0_0 l0_0.length c0_0) := (blk_cell BK1.out 0).trans rfl; have hfz149 := blk_frozen BK1.out 0; have hcz150 : w147.cell? ⟨gb1, 1, none⟩ = some (.slice A0_1 l0_1.length c0_1) := (blk_cell BK1.out 1).trans rfl; have hfz151 := blk_frozen BK1.out 1; have hcz152 : w147.cell? ⟨gb1, 2, none⟩ = some (.int .i64 a0_2) := (blk_cell BK1.out 2).trans rfl; have hfz153 := blk_frozen BK1.out 2; have hcz154 : w147.cell? ⟨gb19, 0, none⟩ = some (.slice A17 t14.length c17) := (blk_cell BK19.out 0).trans rfl; have hfz155 := blk_frozen BK19.out 0; have hcz156 : w147.cell? ⟨gb19, 1, none⟩ = some (.slice A18 t15.length c18) := (blk_cell BK19.out 1).trans rfl; have hfz157 := blk_frozen BK19.out 1; have hcz158 : w147.cell? ⟨gb19, 2, none⟩ = some (.int .i64 t16) := (blk_cell BK19.out 2).trans rfl; have hfz159 := blk_frozen BK19.out 2) | ((with_reducible refine gate_callee (f := 48) rfl ?_); refine goesL_ (some 48) rfl rfl Try.func48 (by kernel_rfl) rfl #[.slice A22 t41.length c22, .int .i64 1] rfl (by (try simp only [List.map_toArray, List.map_cons, List.map_nil]); first | done | (rw [show t41.length = t21.length from (Kd.R_reads' HZ22.out).1.symm] <;> rfl) | rfl | (simp only [List.length_drop, List.length_take]; rfl)) ?_; (with_reducible refine (laws_heldRecS.calls k _ _ t41 1 t43 _ ?side1 ?side2 Fa16.out).mono ?_); (case side1 => exact (Kd.R_reads' HZ22.out).2.2); (case side2 => have h1_ := (Kd.R_reads' HZ22.out).1; have h2_ := (Kd.R_reads' HZ22.out).2.1; omega); rintro e w160 ⟨rfl, hd_⟩; refine ⟨_, rfl, ?_⟩; have hb := hd_.below; clear hd_; replace HZ8 := Aside0.mk (Kd.R_below HZ8.out hb); replace HZ9 := Aside0.mk (Kd.S_below HZ9.out hb); replace HZ12 := Aside0.mk (Kd.R_below HZ12.out hb); replace HZ17 := Aside0.mk (Kd.R_below HZ17.out hb); replace HZ18 := Aside0.mk (Kd.S_below HZ18.out hb); replace HZ22 := Aside0.mk (Kd.R_below HZ22.out hb); replace HZ29 := Aside0.mk (Kd.R_below HZ29.out hb); replace HZ30 := Aside0.mk (Kd.S_below HZ30.out hb); replace BK1 := Aside0.mk (blk_below BK1.out hb); replace BK19 := Aside0.mk (blk_below BK19.out hb); replace HB := Aside0.mk (below_step HB.out hb); replace HL := Aside0.mk (And.intro HL.out (below_size hb)); clear hb; clear hcz148 hfz149 hcz150 hfz151 hcz152 hfz153 hcz154 hfz155 hcz156 hfz157 hcz158 hfz159; have hcz161 : w160.cell? ⟨gb1, 0, none⟩ = some (.slice A0_0 l0_0.length c0_0) := (blk_cell BK1.out 0).trans rfl; have hfz162 := blk_frozen BK1.out 0; have hcz163 : w160.cell? ⟨gb1, 1, none⟩ = some (.slice A0_1 l0_1.length c0_1) := (blk_cell BK1.out 1).trans rfl; have hfz164 := blk_frozen BK1.out 1; have hcz165 : w160.cell? ⟨gb1, 2, none⟩ = some (.int .i64 a0_2) := (blk_cell BK1.out 2).trans rfl; have hfz166 := blk_frozen BK1.out 2; have hcz167 : w160.cell? ⟨gb19, 0, none⟩ = some (.slice A17 t14.length c17) := (blk_cell BK19.out 0).trans rfl; have hfz168 := blk_frozen BK19.out 0; have hcz169 : w160.cell? ⟨gb19, 1, none⟩ = some (.slice A18 t15.length c18) := (blk_cell BK19.out 1).trans rfl; have hfz170 := blk_frozen BK19.out 1; have hcz171 : w160.cell? ⟨gb19, 2, none⟩ = some (.int .i64 t16) := (blk_cell BK19.out 2).trans rfl; have hfz172 := blk_frozen BK19.out 2) | ((with_reducible refine gate_callee (f := 44) rfl ?_); refine goesL_ (some 55) rfl rfl Try.func44 (by kernel_rfl) rfl #[.agg #[.slice A0_0 l0_0.length c0_0, .slice A0_1 l0_1.length c0_1, .int .i64 a0_2]] rfl (by (try simp only [List.map_toArray, List.map_cons, List.map_nil]); first | done | rfl | (simp only [List.length_drop, List.length_take]; rfl)) ?_; (with_reducible refine (laws_toStore.calls k _ _ l0_0 _ _ l0_1 a0_2 t45 t46 t47 _ ?side1 ?side2 ?side3 ?side4 Fa19.out).mono ?_); (case side1 => exact Kd.C_below HR0_0.out HB.out); (case side2 => exact HC0_0.out); (case side3 => exact Kd.C_below HR0_1.out HB.out); (case side4 => exact HC0_1.out); rintro e w173 ⟨v48, v49, rfl, ho0, ho1, hb⟩; refine ⟨_, rfl, ?_⟩; obtain ⟨TA174, TB174, hap174, ho0, ho1⟩ := Kd.two_apart ho0 ho1 (by decide); have DD174 := Aside0.mk hap174; clear hap174; have HZ48 := Aside0.mk (Kd.R_lower (Kd.R_mono (ok' := fun k_ => ((w160.heap.size ≤ k_ ∧ k_ < w173.heap.size) ∧ TA174 k_)) (Kd.R_bound ho0) (fun k_ hk_ => hk_.1)) (below_size HB.out)); clear ho0; have HZ49 := Aside0.mk (Kd.S_lower (Kd.S_mono (ok' := fun k_ => ((w160.heap.size ≤ k_ ∧ k_ < w173.heap.size) ∧ TB174 k_)) (Kd.S_bound ho1) (fun k_ hk_ => hk_.1)) (below_size HB.out)); clear ho1; replace HZ8 := Aside0.mk (Kd.R_below HZ8.out hb); replace HZ9 := Aside0.mk (Kd.S_below HZ9.out hb); replace HZ12 := Aside0.mk (Kd.R_below HZ12.out hb); replace HZ17 := Aside0.mk (Kd.R_below HZ17.out hb); replace HZ18 := Aside0.mk (Kd.S_below HZ18.out hb); replace HZ22 := Aside0.mk (Kd.R_below HZ22.out hb); replace HZ29 := Aside0.mk (Kd.R_below HZ29.out hb); replace HZ30 := Aside0.mk (Kd.S_below HZ30.out hb); replace BK1 := Aside0.mk (blk_below BK1.out hb); replace BK19 := Aside0.mk (blk_below BK19.out hb); replace HB := Aside0.mk (below_step HB.out hb); replace HL := Aside0.mk (And.intro HL.out (below_size hb)); clear hb; obtain ⟨A48, c48, e48⟩ := Kd.R_slice HZ48.out; subst e48; obtain ⟨A49, c49, e49⟩ := Kd.S_slice HZ49.out; subst e49; clear hcz161 hfz162 hcz163 hfz164 hcz165 hfz166 hcz167 hfz168 hcz169 hfz170 hcz171 hfz172; have hcz175 : w173.cell? ⟨gb1, 0, none⟩ = some (.slice A0_0 l0_0.length c0_0) := (blk_cell BK1.out 0).trans rfl; have hfz176 := blk_frozen BK1.out 0; have hcz177 : w173.cell? ⟨gb1, 1, none⟩ = some (.slice A0_1 l0_1.length c0_1) := (blk_cell BK1.out 1).trans rfl; have hfz178 := blk_frozen BK1.out 1; have hcz179 : w173.cell? ⟨gb1, 2, none⟩ = some (.int .i64 a0_2) := (blk_cell BK1.out 2).trans rfl; have hfz180 := blk_frozen BK1.out 2; have hcz181 : w173.cell? ⟨gb19, 0, none⟩ = some (.slice A17 t14.length c17) := (blk_cell BK19.out 0).trans rfl; have hfz182 := blk_frozen BK19.out 0; have hcz183 : w173.cell? ⟨gb19, 1, none⟩ = some (.slice A18 t15.length c18) := (blk_cell BK19.out 1).trans rfl; have hfz184 := blk_frozen BK19.out 1; have hcz185 : w173.cell? ⟨gb19, 2, none⟩ = some (.int .i64 t16) := (blk_cell BK19.out 2).trans rfl; have hfz186 := blk_frozen BK19.out 2) | ((with_reducible refine gate_callee (f := 45) rfl ?_); refine goesL_ (some 56) rfl rfl Try.func45 (by kernel_rfl) rfl #[.agg #[.slice A48 t45.length c48, .slice A49 t46.length c49, .int .i64 t47]] rfl (by (try simp only [List.map_toArray, List.map_cons, List.map_nil]); first | done | rfl | (simp only [List.length_drop, List.length_take]; rfl)) ?_; (with_reducible refine (impl_BaseRecs.calls k _ _ t45 _ _ t46 t47 t51 _ ?side1 ?side2 ?side3 ?side4 Fa20.out).mono ?_); (case side1 => exact (Kd.R_reads' HZ48.out).2.2); (case side2 => exact (Kd.R_reads' HZ48.out).2.1); (case side3 => exact (Kd.S_reads' HZ49.out).2.2); (case side4 => exact (Kd.S_reads' HZ49.out).2.1); rintro e w187 ⟨v52, rfl, ho0, hb⟩; refine ⟨_, rfl, ?_⟩; have HZ52 := Aside0.mk (Kd.R_lower (Kd.R_mono (ok' := fun k_ => (w173.heap.size ≤ k_ ∧ k_ < w187.heap.size)) (Kd.R_bound ho0) (fun k_ hk_ => ⟨hk_.2.1, hk_.2.2.1⟩)) (below_size HB.out)); clear ho0; replace HZ8 := Aside0.mk (Kd.R_below HZ8.out hb); replace HZ9 := Aside0.mk (Kd.S_below HZ9.out hb); replace HZ12 := Aside0.mk (Kd.R_below HZ12.out hb); replace HZ17 := Aside0.mk (Kd.R_below HZ17.out hb); replace HZ18 := Aside0.mk (Kd.S_below HZ18.out hb); replace HZ22 := Aside0.mk (Kd.R_below HZ22.out hb); replace HZ29 := Aside0.mk (Kd.R_below HZ29.out hb); replace HZ30 := Aside0.mk (Kd.S_below HZ30.out hb); replace HZ48 := Aside0.mk (Kd.R_below HZ48.out hb); replace HZ49 := Aside0.mk (Kd.S_below HZ49.out hb); replace BK1 := Aside0.mk (blk_below BK1.out hb); replace BK19 := Aside0.mk (blk_below BK19.out hb); replace HB := Aside0.mk (below_step HB.out hb); replace HL := Aside0.mk (And.intro HL.out (below_size hb)); clear hb; obtain ⟨A52, c52, e52⟩ := Kd.R_slice HZ52.out; subst e52; clear hcz175 hfz176 hcz177 hfz178 hcz179 hfz180 hcz181 hfz182 hcz183 hfz184 hcz185 hfz186; have hcz188 : w187.cell? ⟨gb1, 0, none⟩ = some (.slice A0_0 l0_0.length c0_0) := (blk_cell BK1.out 0).trans rfl; have hfz189 := blk_frozen BK1.out 0; have hcz190 : w187.cell? ⟨gb1, 1, none⟩ = some (.slice A0_1 l0_1.length c0_1) := (blk_cell BK1.out 1).trans rfl; have hfz191 := blk_frozen BK1.out 1; have hcz192 : w187.cell? ⟨gb1, 2, none⟩ = some (.int .i64 a0_2) := (blk_cell BK1.out 2).trans rfl; have hfz193 := blk_frozen BK1.out 2; have hcz194 : w187.cell? ⟨gb19, 0, none⟩ = some (.slice A17 t14.length c17) := (blk_cell BK19.out 0).trans rfl; have hfz195 := blk_frozen BK19.out 0; have hcz196 : w187.cell? ⟨gb19, 1, none⟩ = some (.slice A18 t15.length c18) := (blk_cell BK19.out 1).trans rfl; have hfz197 := blk_frozen BK19.out 1; have hcz198 : w187.cell? ⟨gb19, 2, none⟩ = some (.int .i64 t16) := (blk_cell BK19.out 2).trans rfl; have hfz199 := blk_frozen BK19.out 2) | ((with_reducible refine gate_callee (f := 46) rfl ?_); refine goesL_ (some 59) rfl rfl Try.func46 (by kernel_rfl) rfl #[.slice A52 t51.length c52, .slice A12 t11.length c12] rfl (by (try simp only [List.map_toArray, List.map_cons, List.map_nil]); first | done | rfl | (simp only [List.length_drop, List.length_take]; rfl)) ?_; (with_reducible refine (laws_eqRecS.calls k _ _ t51 _ _ t11 true _ ?side1 ?side2 ?side3 ?side4 Fa21.out).mono ?_); (case side1 => exact (Kd.R_reads' HZ52.out).2.2); (case side2 => exact (Kd.R_reads' HZ52.out).2.1); (case side3 => exact (Kd.R_reads' HZ12.out).2.2); (case side4 => exact (Kd.R_reads' HZ12.out).2.1); rintro e w200 ⟨rfl, hb⟩; refine ⟨_, rfl, ?_⟩; replace HZ8 := Aside0.mk (Kd.R_below HZ8.out hb); replace HZ9 := Aside0.mk (Kd.S_below HZ9.out hb); replace HZ12 := Aside0.mk (Kd.R_below HZ12.out hb); replace HZ17 := Aside0.mk (Kd.R_below HZ17.out hb); replace HZ18 := Aside0.mk (Kd.S_below HZ18.out hb); replace HZ22 := Aside0.mk (Kd.R_below HZ22.out hb); replace HZ29 := Aside0.mk (Kd.R_below HZ29.out hb); replace HZ30 := Aside0.mk (Kd.S_below HZ30.out hb); replace HZ48 := Aside0.mk (Kd.R_below HZ48.out hb); replace HZ49 := Aside0.mk (Kd.S_below HZ49.out hb); replace HZ52 := Aside0.mk (Kd.R_below HZ52.out hb); replace BK1 := Aside0.mk (blk_below BK1.out hb); replace BK19 := Aside0.mk (blk_below BK19.out hb); replace HB := Aside0.mk (below_step HB.out hb); replace HL := Aside0.mk (And.intro HL.out (below_size hb)); clear hb; clear hcz188 hfz189 hcz190 hfz191 hcz192 hfz193 hcz194 hfz195 hcz196 hfz197 hcz198 hfz199; have hcz201 : w200.cell? ⟨gb1, 0, none⟩ = some (.slice A0_0 l0_0.length c0_0) := (blk_cell BK1.out 0).trans rfl; have hfz202 := blk_frozen BK1.out 0; have hcz203 : w200.cell? ⟨gb1, 1, none⟩ = some (.slice A0_1 l0_1.length c0_1) := (blk_cell BK1.out 1).trans rfl; have hfz204 := blk_frozen BK1.out 1; have hcz205 : w200.cell? ⟨gb1, 2, none⟩ = some (.int .i64 a0_2) := (blk_cell BK1.out 2).trans rfl; have hfz206 := blk_frozen BK1.out 2; have hcz207 : w200.cell? ⟨gb19, 0, none⟩ = some (.slice A17 t14.length c17) := (blk_cell BK19.out 0).trans rfl; have hfz208 := blk_frozen BK19.out 0; have hcz209 : w200.cell? ⟨gb19, 1, none⟩ = some (.slice A18 t15.length c18) := (blk_cell BK19.out 1).trans rfl; have hfz210 := blk_frozen BK19.out 1; have hcz211 : w200.cell? ⟨gb19, 2, none⟩ = some (.int .i64 t16) := (blk_cell BK19.out 2).trans rfl; have hfz212 := blk_frozen BK19.out 2) | ((with_reducible refine gate_callee (f := 48) rfl ?_); refine goesL_ (some 63) rfl rfl Try.func48 (by kernel_rfl) rfl #[.slice A22 t41.length c22, .int .i64 1] rfl (by (try simp only [List.map_toArray, List.map_cons, List.map_nil]); first | done | (rw [show t41.length = t21.length from (Kd.R_reads' HZ22.out).1.symm] <;> rfl) | rfl | (simp only [List.length_drop, List.length_take]; rfl)) ?_; (with_reducible refine (laws_heldRecS.calls k _ _ t41 1 t56 _ ?side1 ?side2 Fa23.out).mono ?_); (case side1 => exact (Kd.R_reads' HZ22.out).2.2); (case side2 => have h1_ := (Kd.R_reads' HZ22.out).1; have h2_ := (Kd.R_reads' HZ22.out).2.1; omega); rintro e w213 ⟨rfl, hd_⟩; refine ⟨_, rfl, ?_⟩; have hb := hd_.below; clear hd_; replace HZ8 := Aside0.mk (Kd.R_below HZ8.out hb); replace HZ9 := Aside0.mk (Kd.S_below HZ9.out hb); replace HZ12 := Aside0.mk (Kd.R_below HZ12.out hb); replace HZ17 := Aside0.mk (Kd.R_below HZ17.out hb); replace HZ18 := Aside0.mk (Kd.S_below HZ18.out hb); replace HZ22 := Aside0.mk (Kd.R_below HZ22.out hb); replace HZ29 := Aside0.mk (Kd.R_below HZ29.out hb); replace HZ30 := Aside0.mk (Kd.S_below HZ30.out hb); replace HZ48 := Aside0.mk (Kd.R_below HZ48.out hb); replace HZ49 := Aside0.mk (Kd.S_below HZ49.out hb); replace HZ52 := Aside0.mk (Kd.R_below HZ52.out hb); replace BK1 := Aside0.mk (blk_below BK1.out hb); replace BK19 := Aside0.mk (blk_below BK19.out hb); replace HB := Aside0.mk (below_step HB.out hb); replace HL := Aside0.mk (And.intro HL.out (below_size hb)); clear hb; clear hcz201 hfz202 hcz203 hfz204 hcz205 hfz206 hcz207 hfz208 hcz209 hfz210 hcz211 hfz212; have hcz214 : w213.cell? ⟨gb1, 0, none⟩ = some (.slice A0_0 l0_0.length c0_0) := (blk_cell BK1.out 0).trans rfl; have hfz215 := blk_frozen BK1.out 0; have hcz216 : w213.cell? ⟨gb1, 1, none⟩ = some (.slice A0_1 l0_1.length c0_1) := (blk_cell BK1.out 1).trans rfl; have hfz217 := blk_frozen BK1.out 1; have hcz218 : w213.cell? ⟨gb1, 2, none⟩ = some (.int .i64 a0_2) := (blk_cell BK1.out 2).trans rfl; have hfz219 := blk_frozen BK1.out 2; have hcz220 : w213.cell? ⟨gb19, 0, none⟩ = some (.slice A17 t14.length c17) := (blk_cell BK19.out 0).trans rfl; have hfz221 := blk_frozen BK19.out 0; have hcz222 : w213.cell? ⟨gb19, 1, none⟩ = some (.slice A18 t15.length c18) := (blk_cell BK19.out 1).trans rfl; have hfz223 := blk_frozen BK19.out 1; have hcz224 : w213.cell? ⟨gb19, 2, none⟩ = some (.int .i64 t16) := (blk_cell BK19.out 2).trans rfl; have hfz225 := blk_frozen BK19.out 2))
    go_ret
    exact ⟨rfl, HB.out⟩
end Go.Proofs.Ytijbejiajaiciaa.PC

/- What a law's arguments, read as data, are as the print's kinds. -/
namespace Go.Proofs.Ytijbejiajaiciaa.Open
open Go.RowKit Go.Proofs.YtijbejiajaiciaaW.PrintWords

/-- A datum that is read at type t is of kind d, and each such y meets wf. -/
def Opn {α : Type} (P : Program) (t : TypeId) (d : Kd α) (wf : α → Prop) : Prop :=
  ∀ (H : Type) (enc : TypeId × Value → H) (w : World) (base : Nat) (spare : Nat → Bool) (held : Bool) (fuel : Nat) (cs : List Value) (x : DataW H × List MemPlace),
    DataW.trod enc P w base spare held fuel t cs = some x → ∃ y : α, d.K w y cs ∧ wf y

theorem opn_int {P : Program} {t : TypeId} {k : IntKind} (hu : P.underlying t = some (.int k)) : Opn P t (Kd.int k) (fun n => (Lit.int k n).wf = true) := by
  intro H enc w base spare held fuel cs x h
  obtain ⟨n, rfl, _, hw⟩ := DataW.trod_int hu h
  exact ⟨n, rfl, hw⟩
theorem opn_bool {P : Program} {t : TypeId} (hu : P.underlying t = some .bool) : Opn P t Kd.bool (fun _ => True) := by
  intro H enc w base spare held fuel cs x h
  obtain ⟨n, rfl, _⟩ := DataW.trod_bool hu h
  exact ⟨n, rfl, trivial⟩
theorem opn_string {P : Program} {t : TypeId} (hu : P.underlying t = some .string) : Opn P t Kd.string (fun s => s.size ≤ maxLen) := by
  intro H enc w base spare held fuel cs x h
  obtain ⟨n, rfl, _, hw⟩ := DataW.trod_string hu h
  exact ⟨n, rfl, hw⟩
theorem choose_list {α : Type} {Q : Nat → α → Prop} : ∀ (n : Nat), (∀ i, i < n → ∃ y, Q i y) → ∃ ys : List α, ys.length = n ∧ ∀ i y, ys[i]? = some y → Q i y
  | 0, _ => ⟨[], rfl, fun i y h => by simp at h⟩
  | n + 1, h => by
    obtain ⟨ys, hl, hq⟩ := choose_list n (fun i hi => h i (by omega))
    obtain ⟨y, hy⟩ := h n (by omega)
    refine ⟨ys ++ [y], by simp [hl], fun i z hz => ?_⟩
    rcases Nat.lt_or_ge i ys.length with hi | hi
    · rw [List.getElem?_append_left hi] at hz
      exact hq i z hz
    · rw [List.getElem?_append_right hi] at hz
      have hi2 : i - ys.length = 0 := by
        have := (List.getElem?_eq_some_iff.1 hz).1
        simp at this
        omega
      rw [hi2] at hz
      have : i = n := by omega
      subst this
      simp at hz
      subst hz
      exact hy
theorem adds (a : Addr) (m n : Nat) : (a.add m).add n = a.add (m + n) := by
  unfold Addr.add
  by_cases h1 : m = 0 <;> by_cases h2 : n = 0 <;> simp_all [Nat.add_assoc]
theorem opn_slice {α : Type} {P : Program} {t e : TypeId} {d : Kd α} {wf : α → Prop} (hu : P.underlying t = some (.slice e)) (hc : P.cellsOf e = d.sz) (ho : Opn P e d wf) :
    Opn P t (Kd.slice e d) (fun xs => xs.length ≤ maxLen ∧ ∀ x ∈ xs, wf x) := by
  intro H enc w base spare held fuel cs x h
  rcases DataW.trod_slice hu h with ⟨rfl, _⟩ | ⟨a, len, cap, elems, rest, n, _, rfl, _, hb, hl, hm, hlen, hel, _, _⟩
  · refine ⟨[], ⟨none, 0, rfl, Nat.le_refl _, rfl, by simp, fun h0 => absurd h0 (by simp)⟩, by simp, fun x hx => absurd hx (by simp)⟩
  · have each : ∀ i, i < len → ∃ y : α, ∃ c : List Value, (c.length = d.sz ∧ d.K w y c ∧ ∀ j u, c[j]? = some u → w.cell? (a.add (i * d.sz + j)) = some u) ∧ wf y := by
      intro i hi
      have h1 := hel i hi
      rw [List.getElem?_eq_getElem (by omega), Option.bind_eq_some_iff, hc] at h1
      obtain ⟨c, h2, h3⟩ := h1
      obtain ⟨_, hcl, hcell⟩ := World.cells?_some h2
      obtain ⟨y, hk, hw⟩ := ho H enc w base spare held n c _ h3
      refine ⟨y, c, ⟨hcl, hk, fun j u hj => ?_⟩, hw⟩
      have hjl : j < c.length := (List.getElem?_eq_some_iff.1 hj).1
      rw [← adds, hcell j (by omega), hj]
    obtain ⟨ys, hyl, hys⟩ := choose_list len each
    have hml : len ≤ maxLen := Nat.le_trans hl hm
    refine ⟨ys, ⟨some a, cap, by rw [hyl], by rw [hyl]; exact hl, rfl, by rw [hyl]; simpa only [maxLen] using hml, fun _ => ⟨a, rfl, fun j p hj => ?_⟩⟩, by rw [hyl]; exact hml, fun y hy => ?_⟩
    · obtain ⟨c, hq, _⟩ := hys j p hj
      exact ⟨c, hq⟩
    · obtain ⟨j, hj, he⟩ := List.getElem_of_mem hy
      obtain ⟨_, _, hw⟩ := hys j y (by rw [List.getElem?_eq_getElem hj, he])
      exact hw

/-- The fields fs, read off the cells from off on, are of kind d. -/
def OpnF {α : Type} (P : Program) (fs : List Field) (off : Nat) (d : Kd α) (wf : α → Prop) : Prop :=
  ∀ (H : Type) (enc : TypeId × Value → H) (w : World) (base : Nat) (spare : Nat → Bool) (held : Bool) (fuel : Nat) (cs : List Value), cs.length = off + d.sz →
    (∀ f ∈ fs, ∃ x, DataW.trod enc P w base spare held fuel f.type ((cs.drop f.offset).take (P.cellsOf f.type)) = some x) → ∃ y : α, d.K w y (cs.drop off) ∧ wf y
theorem opnF_one {α : Type} {P : Program} {f : Field} {off : Nat} {d : Kd α} {wf : α → Prop} (hoff : f.offset = off) (hc : P.cellsOf f.type = d.sz) (ho : Opn P f.type d wf) : OpnF P [f] off d wf := by
  intro H enc w base spare held fuel cs hl h
  obtain ⟨x, hx⟩ := h f (by simp)
  obtain ⟨y, hk, hw⟩ := ho H enc w base spare held fuel _ x hx
  rw [hoff, hc, List.take_of_length_le (by rw [List.length_drop]; omega)] at hk
  exact ⟨y, hk, hw⟩
theorem opnF_cons {α β : Type} {P : Program} {f : Field} {fs : List Field} {off : Nat} {a : Kd α} {b : Kd β} {wa : α → Prop} {wb : β → Prop} (hoff : f.offset = off) (hc : P.cellsOf f.type = a.sz) (ho : Opn P f.type a wa) (hr : OpnF P fs (off + a.sz) b wb) :
    OpnF P (f :: fs) off (Kd.pair a b) (fun p => wa p.1 ∧ wb p.2) := by
  intro H enc w base spare held fuel cs hl h
  obtain ⟨x, hx⟩ := h f (by simp)
  obtain ⟨y, hk, hw⟩ := ho H enc w base spare held fuel _ x hx
  have hsz : (Kd.pair a b).sz = a.sz + b.sz := rfl
  obtain ⟨z, hk2, hw2⟩ := hr H enc w base spare held fuel cs (by omega) (fun g hg => h g (List.mem_cons_of_mem _ hg))
  rw [hoff, hc] at hk
  refine ⟨(y, z), ⟨(cs.drop off).take a.sz, cs.drop (off + a.sz), ?_, hk, hk2⟩, hw, hw2⟩
  rw [← List.drop_drop, List.take_append_drop]
theorem opn_tuple {α : Type} {P : Program} {t : TypeId} {fs : List Field} {d : Kd α} {wf : α → Prop} (hu : P.underlying t = some (.struct fs.toArray)) (hc : P.cellsOf t = d.sz) (ho : OpnF P fs 0 d wf) :
    Opn P t d wf := by
  intro H enc w base spare held fuel cs x h
  obtain ⟨xs, n, _, _, hl, hlen, hf⟩ := DataW.trod_struct hu h
  obtain ⟨y, hk, hw⟩ := ho H enc w base spare held n cs (by omega) (fun fl hfl => by
    obtain ⟨i, hi, he⟩ := List.getElem_of_mem hfl
    have h1 := hf i fl (by simpa using (List.getElem?_eq_getElem hi).trans (congrArg some he))
    have hlen2 : xs.length = fs.length := by simpa using hlen
    exact ⟨xs[i]'(by omega), by rw [h1, List.getElem?_eq_getElem]⟩)
  exact ⟨y, by simpa using hk, hw⟩
theorem opn_struct {α β : Type} {P : Program} {t : TypeId} {fs : List Field} {d : Kd α} {wf : α → Prop} (f : β → α) (g : α → β) (hfg : ∀ a, f (g a) = a) (hu : P.underlying t = some (.struct fs.toArray)) (hc : P.cellsOf t = d.sz) (ho : OpnF P fs 0 d wf) :
    Opn P t (Kd.iso d f) (fun y => wf (f y)) := by
  intro H enc w base spare held fuel cs x h
  obtain ⟨xs, n, _, _, hl, hlen, hf⟩ := DataW.trod_struct hu h
  obtain ⟨y, hk, hw⟩ := ho H enc w base spare held n cs (by omega) (fun fl hfl => by
    obtain ⟨i, hi, he⟩ := List.getElem_of_mem hfl
    have h1 := hf i fl (by simpa using (List.getElem?_eq_getElem hi).trans (congrArg some he))
    have hlen2 : xs.length = fs.length := by simpa using hlen
    exact ⟨xs[i]'(by omega), by rw [h1, List.getElem?_eq_getElem]⟩)
  exact ⟨g y, by show d.K w (f (g y)) cs; rw [hfg]; simpa using hk, by show wf (f (g y)); rw [hfg]; exact hw⟩
end Go.Proofs.Ytijbejiajaiciaa.Open

/- Plain facts on rounds, lists and whole numbers, for the pure statements. -/
namespace Go.Proofs.Ytijbejiajaiciaa.Pu
set_option linter.unusedVariables false
set_option linter.unusedSimpArgs false
open Go.RowKit Go.Proofs.YtijbejiajaiciaaW.PrintWords

theorem w64 {x : Int} (h1 : -9223372036854775808 ≤ x) (h2 : x ≤ 9223372036854775807) : wrap64 x = x := by
  unfold wrap64; omega
theorem wsucc {i n : Nat} (h : i < n) (hn : n ≤ 9223372036854775807) : wrap64 ((i : Int) + 1) = ((i + 1 : Nat) : Int) := by
  rw [w64 (by omega) (by omega)]; rfl
theorem wf_i64 {n : Int} (h : (Lit.int .i64 n).wf = true) : -9223372036854775808 ≤ n ∧ n ≤ 9223372036854775807 := by
  simp only [Lit.wf, Bool.and_eq_true, decide_eq_true_eq] at h
  have h1 : IntKind.min .i64 = -9223372036854775808 := by decide
  have h2 : IntKind.max .i64 = 9223372036854775807 := by decide
  omega

/-- Rounds: what is told, a step on. -/
theorem ev_some {α : Type} {g : Nat → Option α} {r : α} (h : ∀ k, g (k + 1) = some r) : Ev g r := Ev.step h (Ev.now r)
theorem ev_const {α : Type} {o : Option α} {r : α} (h : o = some r) : Ev (fun _ => o) r := ⟨0, fun _ _ => h⟩
theorem ev_bind {α β : Type} {g : Nat → Option α} {f : Nat → α → Option β} {a : α} {r : β} (h : Ev g a) (k : Ev (fun n => f n a) r) : Ev (fun n => (g n).bind (f n)) r := Ev.bind h k
theorem ev_uniq {α : Type} {g : Nat → Option α} {a b : α} (h : Ev g a) (k : Ev g b) : a = b := by
  obtain ⟨K, hK⟩ := h
  obtain ⟨M, hM⟩ := k
  have h1 := hK (max K M) (Nat.le_max_left _ _)
  rw [hM (max K M) (Nat.le_max_right _ _)] at h1
  injection h1 with h1
  exact h1.symm
theorem ev_ext {α : Type} {g f : Nat → Option α} {r : α} (h : ∀ k, g k = f k) (k : Ev f r) : Ev g r := Ev.congr h k

/-- A row that is made and filled, place by place. -/
theorem ev_fill {β : Type} {L : Nat → List β → Int → Option (List β)} {E : Nat → Int → Option β} {n : Nat} {e : Nat → β} (hn : n ≤ 9223372036854775807)
    (hs : ∀ k xs i, L (k + 1) xs i = if i < (n : Int) then (if 0 ≤ i then ((E k i).bind fun b => if i < (xs.length : Int) then L k (xs.set i.toNat b) (wrap64 (i + 1)) else none) else none) else some xs)
    (hE : ∀ i, i < n → Ev (fun k => E k (i : Int)) (e i)) :
    ∀ (d i : Nat) (xs : List β), xs.length = n → i + d = n → Ev (fun k => L k xs (i : Int)) (xs.take i ++ (List.range' i d).map e) := by
  intro d
  induction d with
  | zero =>
    intro i xs hl hi
    refine ev_some fun k => ?_
    rw [hs, if_neg (by omega)]
    simp [List.take_of_length_le (show xs.length ≤ i by omega)]
  | succ d ih =>
    intro i xs hl hi
    refine Ev.step (f := fun k => (E k (i : Int)).bind fun b => L k (xs.set i b) ((i + 1 : Nat) : Int)) (fun k => ?_) ?_
    · rw [hs, if_pos (by omega), if_pos (by omega), wsucc (n := n) (by omega) hn]
      congr 1
      funext b
      rw [if_pos (by omega)]
      rfl
    · refine ev_bind (hE i (by omega)) ?_
      have h := ih (i + 1) (xs.set i (e i)) (by rw [List.length_set]; exact hl) (by omega)
      have e1 : (xs.set i (e i)).take (i + 1) ++ (List.range' (i + 1) d).map e = xs.take i ++ (List.range' i (d + 1)).map e := by
        rw [List.range'_succ, List.map_cons, List.take_succ_eq_append_getElem (by rw [List.length_set]; omega), List.getElem_set_self, List.take_set_of_le (Nat.le_refl _)]
        simp
      rw [e1] at h
      exact h
theorem map_range {α β : Type} (l : List α) (z : α) (g : α → β) : (List.range' 0 l.length).map (fun i => g (l.getD i z)) = l.map g := by
  apply List.ext_getElem
  · simp
  · intro i h1 h2
    simp only [List.length_map] at h2
    simp [List.getD_eq_getElem?_getD, List.getElem?_eq_getElem h2]
theorem ev_fill_all {α β : Type} {L : Nat → List β → Int → Option (List β)} {E : Nat → Int → Option β} {l : List α} {z : α} {g : α → β} {xs : List β} (hn : l.length ≤ 9223372036854775807)
    (hs : ∀ k xs i, L (k + 1) xs i = if i < (l.length : Int) then (if 0 ≤ i then ((E k i).bind fun b => if i < (xs.length : Int) then L k (xs.set i.toNat b) (wrap64 (i + 1)) else none) else none) else some xs)
    (hE : ∀ i, i < l.length → Ev (fun k => E k (i : Int)) (g (l.getD i z))) (hx : xs.length = l.length) : Ev (fun k => L k xs 0) (l.map g) := by
  have h := ev_fill (e := fun i => g (l.getD i z)) hn hs hE l.length 0 xs hx (by omega)
  rw [map_range] at h
  simpa using h

/-- Every place meets a test, tried place by place. -/
theorem ev_all {L E : Nat → Int → Option Bool} {n m : Nat} (hn : n ≤ 9223372036854775807) (hnm : n ≤ m)
    (hs : ∀ k i, L (k + 1) i = if i < (n : Int) then (if 0 ≤ i then (if i < (m : Int) then ((E k i).bind fun b => if b = true then L k (wrap64 (i + 1)) else some false) else none) else none) else some true)
    (hE : ∀ i, i < n → Ev (fun k => E k (i : Int)) true) : ∀ (d i : Nat), i + d = n → Ev (fun k => L k (i : Int)) true := by
  intro d
  induction d with
  | zero => intro i hi; exact ev_some fun k => by rw [hs, if_neg (by omega)]
  | succ d ih =>
    intro i hi
    refine Ev.step (f := fun k => (E k (i : Int)).bind fun b => if b = true then L k ((i + 1 : Nat) : Int) else some false) (fun k => ?_) (ev_bind (hE i (by omega)) (by simpa using ih (i + 1) (by omega)))
    rw [hs, if_pos (by omega), if_pos (by omega), if_pos (by omega), wsucc (n := n) (by omega) hn]

/-- What is left of a number, place by place, as long as it is not below 0. -/
theorem ev_size {L E : Nat → Int → Int → Option Int} {n : Nat} {P : Nat → Prop} (hn : n ≤ 9223372036854775807)
    (hs : ∀ k a i, L (k + 1) a i = if i < (n : Int) then (if 0 ≤ i then ((E k i a).bind fun t => if t < 0 then some (-1) else L k t (wrap64 (i + 1))) else none) else some a)
    (hE : ∀ i a, i < n → 0 ≤ a → a ≤ 1048576 → ∃ t, Ev (fun k => E k (i : Int) a) t ∧ t ≤ a ∧ (0 ≤ t → P i)) :
    ∀ (d i : Nat) (a : Int), i + d = n → 0 ≤ a → a ≤ 1048576 → ∃ r, Ev (fun k => L k a (i : Int)) r ∧ r ≤ a ∧ (0 ≤ r → ∀ m, i ≤ m → m < n → P m) := by
  intro d
  induction d with
  | zero => intro i a hi h0 h1; exact ⟨a, ev_some fun k => by rw [hs, if_neg (by omega)], Int.le_refl _, fun _ m h2 h3 => by omega⟩
  | succ d ih =>
    intro i a hi h0 h1
    obtain ⟨t, ht, hta, hp⟩ := hE i a (by omega) h0 h1
    have hst : ∀ k, L (k + 1) a (i : Int) = (E k (i : Int) a).bind fun t => if t < 0 then some (-1) else L k t ((i + 1 : Nat) : Int) := fun k => by
      rw [hs, if_pos (by omega), if_pos (by omega), wsucc (n := n) (by omega) hn]
    by_cases hneg : t < 0
    · exact ⟨-1, Ev.step hst (ev_bind ht (by simp only [if_pos hneg]; exact Ev.now _)), by omega, fun h => by omega⟩
    · obtain ⟨r, hr, hra, hq⟩ := ih (i + 1) t (by omega) (by omega) (by omega)
      refine ⟨r, Ev.step hst (ev_bind ht (by simp only [if_neg hneg]; exact hr)), by omega, fun h0r m h2 h3 => ?_⟩
      by_cases e : m = i
      · subst e; exact hp (by omega)
      · exact hq h0r m (by omega) h3
end Go.Proofs.Ytijbejiajaiciaa.Pu

/- More plain facts on rounds: tests in a row, folds, searches. -/
namespace Go.Proofs.Ytijbejiajaiciaa.Pu
set_option linter.unusedVariables false
set_option linter.unusedSimpArgs false
open Go.RowKit Go.Proofs.YtijbejiajaiciaaW.PrintWords

/-- Tests in a row, one a round; then what comes. -/
theorem ev_scan {L : Nat → Int → Option Bool} {g : Nat → Option Bool} {n : Nat} {T : Nat → Bool} {r : Bool}
    (hs : ∀ k i, i < n → L (k + 1) (i : Int) = if T i = true then L k ((i + 1 : Nat) : Int) else some false) (he : ∀ k, L (k + 1) (n : Int) = g k) (hr : Ev g r) :
    ∀ (d i : Nat), i + d = n → Ev (fun k => L k (i : Int)) ((List.range' i d).all T && r) := by
  intro d
  induction d with
  | zero =>
    intro i hi
    obtain rfl : i = n := by omega
    exact Ev.step he hr
  | succ d ih =>
    intro i hi
    rw [List.range'_succ, List.all_cons]
    by_cases h : T i = true
    · rw [h, Bool.true_and]
      exact Ev.step (fun k => by rw [hs k i (by omega), if_pos h]) (ih (i + 1) (by omega))
    · rw [Bool.eq_false_iff.mpr h, Bool.false_and, Bool.false_and]
      exact ev_some fun k => by rw [hs k i (by omega), if_neg h]
/-- Tests in a row, each of many rounds; then what comes. -/
theorem ev_outer {L : Nat → Int → Option Bool} {n : Nat} {T : Nat → Bool} {r0 : Bool}
    (hs : ∀ i r, i < n → Ev (fun k => L k ((i + 1 : Nat) : Int)) r → Ev (fun k => L k (i : Int)) (T i && r)) (he : Ev (fun k => L k (n : Int)) r0) :
    ∀ (d i : Nat), i + d = n → Ev (fun k => L k (i : Int)) ((List.range' i d).all T && r0) := by
  intro d
  induction d with
  | zero =>
    intro i hi
    obtain rfl : i = n := by omega
    exact he
  | succ d ih =>
    intro i hi
    rw [List.range'_succ, List.all_cons, Bool.and_assoc]
    exact hs i _ (by omega) (ih (i + 1) (by omega))
/-- A state that is carried along; then what comes. -/
theorem ev_fold {σ ρ : Type} {L : Nat → σ → Int → Option ρ} {n : Nat} {F : σ → Nat → σ} {fin : σ → ρ} (Inv : Nat → σ → Prop)
    (hs : ∀ s i, i < n → Inv i s → ∀ r, Ev (fun k => L k (F s i) ((i + 1 : Nat) : Int)) r → Ev (fun k => L k s (i : Int)) r) (hi : ∀ s i, i < n → Inv i s → Inv (i + 1) (F s i))
    (he : ∀ s, Inv n s → Ev (fun k => L k s (n : Int)) (fin s)) : ∀ (d i : Nat) (s : σ), i + d = n → Inv i s → Ev (fun k => L k s (i : Int)) (fin ((List.range' i d).foldl F s)) := by
  intro d
  induction d with
  | zero =>
    intro i s h hv
    obtain rfl : i = n := by omega
    exact he s hv
  | succ d ih =>
    intro i s h hv
    rw [List.range'_succ, List.foldl_cons]
    exact hs s i (by omega) hv _ (ih (i + 1) (F s i) (by omega) (hi s i (by omega) hv))
/-- The first place that meets a test, -1 without one. -/
def findI (T : Nat → Bool) : Nat → Nat → Int
  | _, 0 => -1
  | i, d + 1 => if T i = true then (i : Int) else findI T (i + 1) d
theorem ev_find {L : Nat → Int → Option Int} {n : Nat} {T : Nat → Bool}
    (hy : ∀ i, i < n → T i = true → Ev (fun k => L k (i : Int)) (i : Int)) (hn : ∀ i, i < n → T i = false → ∀ r, Ev (fun k => L k ((i + 1 : Nat) : Int)) r → Ev (fun k => L k (i : Int)) r)
    (he : Ev (fun k => L k (n : Int)) (-1)) : ∀ (d i : Nat), i + d = n → Ev (fun k => L k (i : Int)) (findI T i d) := by
  intro d
  induction d with
  | zero =>
    intro i hi
    obtain rfl : i = n := by omega
    exact he
  | succ d ih =>
    intro i hi
    unfold findI
    by_cases h : T i = true
    · rw [if_pos h]; exact hy i (by omega) h
    · rw [if_neg h]; exact hn i (by omega) (Bool.eq_false_iff.mpr h) _ (ih (i + 1) (by omega))
theorem findI_range {T : Nat → Bool} : ∀ (d i : Nat), findI T i d = -1 ∨ ∃ j, i ≤ j ∧ j < i + d ∧ findI T i d = (j : Int) ∧ T j = true
  | 0, i => .inl rfl
  | d + 1, i => by
    unfold findI
    by_cases h : T i = true
    · rw [if_pos h]; exact .inr ⟨i, Nat.le_refl _, by omega, rfl, h⟩
    · rw [if_neg h]
      rcases findI_range d (i + 1) with h1 | ⟨j, h1, h2, h3, h4⟩
      · exact .inl h1
      · exact .inr ⟨j, by omega, by omega, h3, h4⟩
theorem bytes_empty (a : ByteArray) : (a.toList == ([] : List UInt8)) = decide ((a.size : Int) ≤ 0) := by
  rw [ByteArray.toList_eq]
  have h : a.data.toList.length = a.size := by rw [Array.length_toList]; rfl
  cases e : a.data.toList with
  | nil =>
    have h1 : a.size = 0 := by rw [← h, e]; rfl
    rw [decide_eq_true (by omega)]; rfl
  | cons x l =>
    have h1 : a.size = l.length + 1 := by rw [← h, e]; rfl
    rw [decide_eq_false (by omega)]; rfl
theorem getD_mem' {α : Type} {l : List α} {i : Nat} {z : α} (hi : i < l.length) : l.getD i z ∈ l := by
  rw [List.getD_eq_getElem?_getD, List.getElem?_eq_getElem hi]; exact List.getElem_mem hi
end Go.Proofs.Ytijbejiajaiciaa.Pu

/- What the functions on arenas answer: sizes, copies, comparison, and when an arena is right. -/
namespace Go.Proofs.Ytijbejiajaiciaa.Pu
set_option linter.unusedVariables false
set_option linter.unusedSimpArgs false
open Go.RowKit Go.Proofs.Ytijbejiajaiciaa.PC Go.Proofs.YtijbejiajaiciaaW.PrintWords

theorem rd_nat (l : List Int) (i : Nat) : rd l (i : Int) = l.getD i 0 := rfl
theorem rdLK_nat (l : List S134) (i : Nat) : rd_T134 l (i : Int) = l.getD i z134 := rfl
theorem rdIK_nat (l : List S138) (i : Nat) : rd_T138 l (i : Int) = l.getD i z138 := rfl

def toK (x : S134) : S138 := ⟨x.f0, x.f1⟩
def toA (l : List S134) : List S138 := l.map toK

theorem toIntS_ev (l : List Int) (h : l.length ≤ 35184372088832) : Ev (fun k => laws_toIntS.f k l) l := by
  have hn : l.length ≤ 9223372036854775807 := by omega
  have h1 := ev_fill_all (E := fun _ i => some (rd l i)) (l := l) (z := 0) (g := fun x => x) (xs := List.replicate l.length 0) (L := fun k xs i => laws_toIntS.l0 k l xs i) hn (fun k xs i => by
    simp only [laws_toIntS.l0, Option.bind_some]) (fun i _ => by rw [rd_nat]; exact Ev.now _) (by simp)
  rw [List.map_id'] at h1
  refine ev_ext (fun k => ?_) h1
  unfold laws_toIntS.f
  rw [if_pos (by omega), if_pos (by simpa using h)]
  simp
theorem toKnot_ev (b : Bool) (l : List Int) (h : l.length ≤ 35184372088832) : Ev (fun k => laws_toKnot.f k b l) (b, l) := by
  unfold laws_toKnot.f
  exact ev_bind (toIntS_ev l h) (Ev.now _)
theorem toKnotS_ev (l : List S134) (h : l.length ≤ 8796093022208) (hk : ∀ x ∈ l, x.f1.length ≤ 35184372088832) : Ev (fun k => laws_toKnotS.f k l) (toA l) := by
  have hn : l.length ≤ 9223372036854775807 := by omega
  have h1 := ev_fill_all (E := fun k i => (laws_toKnot.f k (rd_T134 l i).f0 (rd_T134 l i).f1).bind fun bt => some (⟨bt.1, bt.2⟩ : S138)) (l := l) (z := z134) (g := toK) (xs := List.replicate l.length z138) (L := fun k xs i => laws_toKnotS.l0 k l xs i) hn (fun k xs i => by
    simp only [laws_toKnotS.l0, Option.bind_assoc, Option.bind_some]) (fun i hi => by
      rw [rdLK_nat]
      have hm : l.getD i z134 ∈ l := by rw [List.getD_eq_getElem?_getD, List.getElem?_eq_getElem hi]; exact List.getElem_mem hi
      exact ev_bind (toKnot_ev _ _ (hk _ hm)) (Ev.now _)) (by simp)
  refine ev_ext (fun k => ?_) h1
  unfold laws_toKnotS.f
  rw [if_pos (by omega), if_pos (by simpa using h)]
  simp
theorem toArena_ev (l : List S134) (h : l.length ≤ 8796093022208) (hk : ∀ x ∈ l, x.f1.length ≤ 35184372088832) : Ev (fun k => laws_toArena.f k l) (toA l) := by
  unfold laws_toArena.f
  exact ev_bind (toKnotS_ev l h hk) (Ev.now _)

theorem eqIntS_ev (l : List Int) (hn : l.length ≤ 9223372036854775807) : Ev (fun k => laws_eqIntS.f k l l) true := by
  have h1 := ev_all (n := l.length) (m := l.length) (L := fun k i => laws_eqIntS.l0 k l l i) (E := fun _ _ => some true) hn (Nat.le_refl _) (fun k i => by simp [laws_eqIntS.l0]) (fun i _ => Ev.now _) l.length 0 (by omega)
  refine ev_ext (fun k => ?_) h1
  unfold laws_eqIntS.f
  rw [if_pos rfl]; rfl
theorem eqKnot_ev (b : Bool) (l : List Int) (hn : l.length ≤ 9223372036854775807) : Ev (fun k => laws_eqKnot.f k b l b l) true := by
  unfold laws_eqKnot.f
  simp only [bne_self_eq_false, Bool.false_eq_true, if_false]
  exact ev_bind (eqIntS_ev l hn) (by simp only [if_true]; exact Ev.now _)
theorem eqKnotS_ev (l : List S138) (hn : l.length ≤ 9223372036854775807) (hk : ∀ x ∈ l, x.f1.length ≤ 9223372036854775807) : Ev (fun k => laws_eqKnotS.f k l l) true := by
  have h1 := ev_all (n := l.length) (m := l.length) (L := fun k i => laws_eqKnotS.l0 k l l i) (E := fun k i => laws_eqKnot.f k (rd_T138 l i).f0 (rd_T138 l i).f1 (rd_T138 l i).f0 (rd_T138 l i).f1) hn (Nat.le_refl _) (fun k i => by simp only [laws_eqKnotS.l0]) (fun i hi => by
    rw [rdIK_nat]
    have hm : l.getD i z138 ∈ l := by rw [List.getD_eq_getElem?_getD, List.getElem?_eq_getElem hi]; exact List.getElem_mem hi
    exact eqKnot_ev _ _ (hk _ hm)) l.length 0 (by omega)
  refine ev_ext (fun k => ?_) h1
  unfold laws_eqKnotS.f
  rw [if_pos rfl]; rfl
theorem eqArena_ev (l : List S138) (hn : l.length ≤ 9223372036854775807) (hk : ∀ x ∈ l, x.f1.length ≤ 9223372036854775807) : Ev (fun k => laws_eqArena.f k l l) true := by
  unfold laws_eqArena.f
  exact ev_bind (eqKnotS_ev l hn hk) (by simp only [if_true]; exact Ev.now _)

theorem szIntS_eq (l : List Int) (a : Int) (h0 : 0 ≤ a) (h1 : a ≤ 1048576) (hn : l.length ≤ 9223372036854775807) : ∃ t, laws_szIntS.f l a = some t ∧ t ≤ a ∧ (0 ≤ t → (l.length : Int) ≤ a) := by
  unfold laws_szIntS.f
  rw [w64 (by omega) (by omega)]
  by_cases h : a - (l.length : Int) < 0
  · exact ⟨-1, by rw [if_pos h], by omega, fun h2 => by omega⟩
  · exact ⟨_, by rw [if_neg h], by omega, fun _ => by omega⟩
theorem szKnot_eq (b : Bool) (l : List Int) (a : Int) (h0 : 0 ≤ a) (h1 : a ≤ 1048576) (hn : l.length ≤ 9223372036854775807) : ∃ t, laws_szKnot.f b l a = some t ∧ t ≤ a ∧ (0 ≤ t → (l.length : Int) ≤ a) := by
  obtain ⟨t, ht, hta, hp⟩ := szIntS_eq l a h0 h1 hn
  unfold laws_szKnot.f
  rw [ht]
  simp only [Option.bind_some]
  by_cases h : t < 0
  · exact ⟨-1, by rw [if_pos h], by omega, fun h2 => by omega⟩
  · exact ⟨t, by rw [if_neg h], hta, hp⟩
theorem szKnotS_ev (l : List S134) (a : Int) (h0 : 0 ≤ a) (h1 : a ≤ 1048576) (hn : l.length ≤ 9223372036854775807) (hk : ∀ x ∈ l, x.f1.length ≤ 9223372036854775807) :
    ∃ r, Ev (fun k => laws_szKnotS.f k l a) r ∧ r ≤ a ∧ (0 ≤ r → (l.length : Int) ≤ a ∧ ∀ x ∈ l, (x.f1.length : Int) ≤ 1048576) := by
  by_cases h : a - (l.length : Int) < 0
  · refine ⟨-1, ⟨0, fun k _ => ?_⟩, by omega, fun h2 => by omega⟩
    show laws_szKnotS.f k l a = _
    unfold laws_szKnotS.f
    rw [w64 (by omega) (by omega), if_pos h]
  · obtain ⟨r, hr, hra, hq⟩ := ev_size (n := l.length) (L := fun k a i => laws_szKnotS.l0 k l a i) (E := fun _ i a => laws_szKnot.f (rd_T134 l i).f0 (rd_T134 l i).f1 a) (P := fun i => ((l.getD i z134).f1.length : Int) ≤ 1048576) hn (fun k a i => by simp only [laws_szKnotS.l0])
      (fun i a hi h2 h3 => by
        have hm : l.getD i z134 ∈ l := by rw [List.getD_eq_getElem?_getD, List.getElem?_eq_getElem hi]; exact List.getElem_mem hi
        obtain ⟨t, ht, hta, hp⟩ := szKnot_eq (rd_T134 l i).f0 (rd_T134 l i).f1 a h2 h3 (by rw [rdLK_nat]; exact hk _ hm)
        exact ⟨t, ev_const ht, hta, fun h4 => by have := hp h4; rw [rdLK_nat] at this; omega⟩) l.length 0 (a - (l.length : Int)) (by omega) (by omega) (by omega)
    refine ⟨r, ev_ext (fun k => ?_) hr, by omega, fun h2 => ⟨by omega, fun x hx => ?_⟩⟩
    · unfold laws_szKnotS.f
      rw [w64 (by omega) (by omega), if_neg h]; rfl
    · obtain ⟨i, hi, rfl⟩ := List.getElem_of_mem hx
      have := hq h2 i (by omega) hi
      rwa [List.getD_eq_getElem?_getD, List.getElem?_eq_getElem hi] at this
theorem szArena_ev (l : List S134) (a : Int) (h0 : 0 ≤ a) (h1 : a ≤ 1048576) (hn : l.length ≤ 9223372036854775807) (hk : ∀ x ∈ l, x.f1.length ≤ 9223372036854775807) :
    ∃ r, Ev (fun k => laws_szArena.f k l a) r ∧ r ≤ a ∧ (0 ≤ r → (l.length : Int) ≤ a ∧ ∀ x ∈ l, (x.f1.length : Int) ≤ 1048576) := by
  obtain ⟨r, hr, hra, hq⟩ := szKnotS_ev l a h0 h1 hn hk
  by_cases h : r < 0
  · exact ⟨-1, by unfold laws_szArena.f; exact ev_bind hr (by simp only [if_pos h]; exact Ev.now _), by omega, fun h2 => by omega⟩
  · exact ⟨r, by unfold laws_szArena.f; exact ev_bind hr (by simp only [if_neg h]; exact Ev.now _), hra, hq⟩
end Go.Proofs.Ytijbejiajaiciaa.Pu

/- When an arena is right, as one test; the program's and the reference's ArenaOk answer it. -/
namespace Go.Proofs.Ytijbejiajaiciaa.Pu
set_option linter.unusedVariables false
set_option linter.unusedSimpArgs false
open Go.RowKit Go.Proofs.Ytijbejiajaiciaa.PC Go.Proofs.YtijbejiajaiciaaW.PrintWords

theorem in_eq (a l h : Int) : impl_in.f a l h = some (decide (l ≤ a ∧ a ≤ h)) := by
  unfold impl_in.f
  by_cases h1 : a ≥ l
  · rw [if_pos h1]; congr 1; simp; omega
  · rw [if_neg h1]; congr 1; simp; omega
theorem l01In_eq (a l h : Int) : spec_l01In.f a l h = some (decide (l ≤ a ∧ a ≤ h)) := by
  unfold spec_l01In.f
  by_cases h1 : a ≥ l
  · rw [if_pos h1]; congr 1; simp; omega
  · rw [if_neg h1]; congr 1; simp; omega

/-- A kid of the knot at place i. -/
def kidB (l : List S138) (i : Nat) (leaf : Bool) (n : Int) : Bool :=
  if leaf = true then decide (0 ≤ n) else decide (n = -1) || (decide (0 ≤ n ∧ n ≤ (i : Int) - 1) && (l.getD n.toNat z138).f0)
def knotB (l : List S138) (i : Nat) (x : S138) : Bool := decide (x.f1.length = 4) && x.f1.all (kidB l i x.f0)
def arenaB (l : List S138) : Bool := (List.range' 0 l.length).all fun i => knotB l i (l.getD i z138)

theorem sArena_step (k : Nat) (kids : List Int) (i j : Nat) (a : List S138) (leaf : Bool) (hi : i < a.length) (hn : a.length ≤ 9223372036854775807) (hj : j < 4) (hk : kids.length = 4) :
    spec_ArenaOk.l1 (k + 1) i j a leaf kids = if kidB a i leaf (kids.getD j 0) = true then spec_ArenaOk.l1 k i ((j + 1 : Nat) : Int) a leaf kids else some false := by
  simp only [spec_ArenaOk.l1]
  rw [if_pos (by omega), if_pos (by omega), if_pos (by omega), wsucc (n := 4) hj (by omega), w64 (x := (i : Int) - 1) (by omega) (by omega), rd_nat]
  generalize kids.getD j 0 = n
  unfold kidB
  cases leaf with
  | true => by_cases h : n < 0 <;> simp [h] <;> omega
  | false =>
    simp only [Bool.false_eq_true, if_false, l01In_eq, Option.bind_some, decide_eq_true_eq]
    by_cases h1 : n = -1
    · simp [h1]
    · by_cases h2 : 0 ≤ n ∧ n ≤ (i : Int) - 1
      · rw [if_neg h1, if_pos h2, if_pos h2.1, if_pos (by omega)]
        simp [h1, h2, rd_T138]
      · simp [h1, h2]
theorem iArena_step (k : Nat) (kids : List Int) (i j : Nat) (a : List S138) (leaf : Bool) (hi : i < a.length) (hn : a.length ≤ 9223372036854775807) (hj : j < 4) (hk : kids.length = 4) :
    impl_ArenaOk.l1 (k + 1) i a a.length i kids kids.length j a leaf kids = if kidB a i leaf (kids.getD j 0) = true then impl_ArenaOk.l1 k i a a.length i kids kids.length ((j + 1 : Nat) : Int) a leaf kids else some false := by
  simp only [impl_ArenaOk.l1]
  rw [if_pos (by omega), if_pos (by omega), if_pos (by omega), wsucc (n := 4) hj (by omega), w64 (x := (i : Int) - 1) (by omega) (by omega), rd_nat]
  generalize kids.getD j 0 = n
  unfold kidB
  cases leaf with
  | true => by_cases h : n < 0 <;> simp [h] <;> omega
  | false =>
    simp only [Bool.false_eq_true, if_false, in_eq, Option.bind_some, decide_eq_true_eq]
    by_cases h1 : n = -1
    · simp [h1]
    · by_cases h2 : 0 ≤ n ∧ n ≤ (i : Int) - 1
      · rw [if_neg h1, if_pos h2, if_pos h2.1, if_pos (by omega)]
        simp [h1, h2, rd_T138]
      · simp [h1, h2]
/-- The kids of one knot, tried in order; then what comes. -/
theorem ev_kids {L : Nat → Int → Option Bool} {g : Nat → Option Bool} {kids : List Int} {T : Int → Bool} {r : Bool} (hk : kids.length = 4)
    (hs : ∀ k j, j < 4 → L (k + 1) ((j : Nat) : Int) = if T (kids.getD j 0) = true then L k ((j + 1 : Nat) : Int) else some false) (he : ∀ k, L (k + 1) 4 = g k) (hr : Ev g r) :
    ∀ (d j : Nat), j + d = 4 → Ev (fun k => L k (j : Int)) ((kids.drop j).all T && r) := by
  intro d
  induction d with
  | zero =>
    intro j hj
    obtain rfl : j = 4 := by omega
    refine Ev.step (f := g) (fun k => he k) ?_
    rw [List.drop_eq_nil_of_le (by omega)]
    exact hr
  | succ d ih =>
    intro j hj
    have hjl : j < kids.length := by omega
    rw [List.drop_eq_getElem_cons hjl, List.all_cons]
    have e : kids.getD j 0 = kids[j] := by rw [List.getD_eq_getElem?_getD, List.getElem?_eq_getElem hjl]; rfl
    by_cases h : T kids[j] = true
    · rw [h, Bool.true_and]
      exact Ev.step (f := fun k => L k ((j + 1 : Nat) : Int)) (fun k => by rw [hs k j (by omega), e, if_pos h]) (ih (j + 1) (by omega))
    · rw [Bool.eq_false_iff.mpr h, Bool.false_and, Bool.false_and]
      exact ev_some fun k => by rw [hs k j (by omega), e, if_neg h]
theorem sArena_ev (a : List S138) (hn : a.length ≤ 9223372036854775807) : Ev (fun k => spec_ArenaOk.f k a) (arenaB a) := by
  have main : ∀ (d i : Nat), i + d = a.length → Ev (fun k => spec_ArenaOk.l0 k (i : Int) a) ((List.range' i d).all fun i => knotB a i (a.getD i z138)) := by
    intro d
    induction d with
    | zero => intro i hi; exact ev_some fun k => by simp only [spec_ArenaOk.l0]; rw [if_neg (by omega)]; rfl
    | succ d ih =>
      intro i hi
      rw [List.range'_succ, List.all_cons]
      unfold knotB
      by_cases h4 : (a.getD i z138).f1.length = 4
      · rw [decide_eq_true h4, Bool.true_and]
        have h := ev_kids (L := fun k j => spec_ArenaOk.l1 k i j a (a.getD i z138).f0 (a.getD i z138).f1) (T := kidB a i (a.getD i z138).f0) h4 (fun k j hj => sArena_step k (a.getD i z138).f1 i j a _ (by omega) hn hj h4)
          (g := fun k => spec_ArenaOk.l0 k ((i + 1 : Nat) : Int) a) (fun k => by simp only [spec_ArenaOk.l1]; rw [if_neg (by omega), wsucc (n := a.length) (by omega) hn]) (ih (i + 1) (by omega)) 4 0 rfl
        refine Ev.step (fun k => ?_) h
        simp only [spec_ArenaOk.l0]
        rw [if_pos (by omega), if_pos (by omega), rdIK_nat, if_pos (by omega)]
        rfl
      · rw [decide_eq_false h4, Bool.false_and, Bool.false_and]
        refine ev_some fun k => ?_
        simp only [spec_ArenaOk.l0]
        rw [if_pos (by omega), if_pos (by omega), rdIK_nat, if_neg (by omega)]
  exact main a.length 0 (by omega)
theorem iArena_ev (a : List S138) (hn : a.length ≤ 9223372036854775807) : Ev (fun k => impl_ArenaOk.f k a) (arenaB a) := by
  have main : ∀ (d i : Nat), i + d = a.length → Ev (fun k => impl_ArenaOk.l0 k a a.length (i : Int) a) ((List.range' i d).all fun i => knotB a i (a.getD i z138)) := by
    intro d
    induction d with
    | zero => intro i hi; exact ev_some fun k => by simp only [impl_ArenaOk.l0]; rw [if_neg (by omega)]; rfl
    | succ d ih =>
      intro i hi
      rw [List.range'_succ, List.all_cons]
      unfold knotB
      by_cases h4 : (a.getD i z138).f1.length = 4
      · rw [decide_eq_true h4, Bool.true_and]
        have h := ev_kids (L := fun k j => impl_ArenaOk.l1 k i a a.length i (a.getD i z138).f1 (a.getD i z138).f1.length j a (a.getD i z138).f0 (a.getD i z138).f1) (T := kidB a i (a.getD i z138).f0) h4 (fun k j hj => iArena_step k (a.getD i z138).f1 i j a _ (by omega) hn hj h4)
          (g := fun k => impl_ArenaOk.l0 k a a.length ((i + 1 : Nat) : Int) a) (fun k => by simp only [impl_ArenaOk.l1]; rw [if_neg (by omega), wsucc (n := a.length) (by omega) hn]) (ih (i + 1) (by omega)) 4 0 rfl
        refine Ev.step (fun k => ?_) h
        simp only [impl_ArenaOk.l0]
        rw [if_pos (by omega), if_pos (by omega), if_pos (by omega), rdIK_nat, if_pos (by omega)]
        rfl
      · rw [decide_eq_false h4, Bool.false_and, Bool.false_and]
        refine ev_some fun k => ?_
        simp only [impl_ArenaOk.l0]
        rw [if_pos (by omega), if_pos (by omega), if_pos (by omega), rdIK_nat, if_neg (by omega)]
  exact main a.length 0 (by omega)
end Go.Proofs.Ytijbejiajaiciaa.Pu

/- The number of a sector of a tree, as one function; the program's and the reference's GetAt answer it. -/
namespace Go.Proofs.Ytijbejiajaiciaa.Pu
set_option linter.unusedVariables false
set_option linter.unusedSimpArgs false
open Go.RowKit Go.Proofs.Ytijbejiajaiciaa.PC Go.Proofs.YtijbejiajaiciaaW.PrintWords

def rootB (a : List S138) (r : Int) : Bool := decide (0 ≤ r ∧ r ≤ (a.length : Int) - 1) && !(a.getD r.toNat z138).f0
def numB (a : List S138) (r s : Int) : Int := if (a.getD r.toNat z138).f1.getD (s / 4).toNat 0 < 0 then 0 else (a.getD ((a.getD r.toNat z138).f1.getD (s / 4).toNat 0).toNat z138).f1.getD (s % 4).toNat 0
def getB (a : List S138) (r s : Int) : Int := if (0 ≤ s ∧ s ≤ 15) ∧ rootB a r = true ∧ arenaB a = true then numB a r s else 0

theorem knot_of {a : List S138} (h : arenaB a = true) {i : Nat} (hi : i < a.length) : (a.getD i z138).f1.length = 4 ∧ ∀ n ∈ (a.getD i z138).f1, kidB a i (a.getD i z138).f0 n = true := by
  unfold arenaB at h
  rw [List.all_eq_true] at h
  have h1 := h i (by simp; omega)
  unfold knotB at h1
  rw [Bool.and_eq_true, decide_eq_true_eq, List.all_eq_true] at h1
  exact h1
theorem getD_mem {α : Type} {l : List α} {i : Nat} {z : α} (hi : i < l.length) : l.getD i z ∈ l := by
  rw [List.getD_eq_getElem?_getD, List.getElem?_eq_getElem hi]; exact List.getElem_mem hi
/-- A kid of a knot that is no leaf: -1, or the place of a leaf. -/
theorem kid_of {a : List S138} (h : arenaB a = true) {r : Nat} (hr : r < a.length) (hf : (a.getD r z138).f0 = false) {j : Nat} (hj : j < 4) :
    (a.getD r z138).f1.getD j 0 = -1 ∨ (0 ≤ (a.getD r z138).f1.getD j 0 ∧ (a.getD r z138).f1.getD j 0 < r ∧ (a.getD ((a.getD r z138).f1.getD j 0).toNat z138).f0 = true) := by
  obtain ⟨h4, hk⟩ := knot_of h hr
  have h1 := hk _ (getD_mem (i := j) (z := 0) (by omega))
  unfold kidB at h1
  rw [hf] at h1
  simp only [Bool.false_eq_true, if_false, Bool.or_eq_true, decide_eq_true_eq, Bool.and_eq_true] at h1
  rcases h1 with h1 | ⟨h1, h2⟩
  · exact .inl h1
  · exact .inr ⟨h1.1, by omega, h2⟩
theorem iRoot_eq (a : List S138) (r : Int) (hn : a.length ≤ 9223372036854775807) : impl_isRoot.f a r = some (rootB a r) := by
  unfold impl_isRoot.f rootB
  rw [w64 (by omega) (by omega), in_eq]
  simp only [Option.bind_some]
  by_cases h : 0 ≤ r ∧ r ≤ (a.length : Int) - 1
  · rw [decide_eq_true h, if_pos rfl, if_pos h.1, if_pos (by omega), Bool.true_and]; rfl
  · rw [decide_eq_false h, if_neg (by decide), Bool.false_and]
theorem sRoot_eq (a : List S138) (r : Int) (hn : a.length ≤ 9223372036854775807) : spec_l11Root.f a r = some (decide (r = -1) || rootB a r) := by
  unfold spec_l11Root.f rootB
  by_cases h0 : r = -1
  · rw [if_pos h0, decide_eq_true h0, Bool.true_or]
  · rw [if_neg h0, decide_eq_false h0, Bool.false_or, w64 (by omega) (by omega), l01In_eq]
    simp only [Option.bind_some]
    by_cases h : 0 ≤ r ∧ r ≤ (a.length : Int) - 1
    · rw [decide_eq_true h, if_pos rfl, if_pos h.1, if_pos (by omega), Bool.true_and]; rfl
    · rw [decide_eq_false h, if_neg (by decide), Bool.false_and]
theorem div4 {s : Int} (h0 : 0 ≤ s) (h1 : s ≤ 15) : wrap64 (Int.tdiv s 4) = s / 4 ∧ Int.tmod s 4 = s % 4 ∧ 0 ≤ s / 4 ∧ s / 4 < 4 ∧ 0 ≤ s % 4 ∧ s % 4 < 4 := by
  rw [Int.tdiv_eq_ediv_of_nonneg h0, Int.tmod_eq_emod_of_nonneg h0, w64 (by omega) (by omega)]
  omega
theorem root_lt {a : List S138} {r : Int} (h : rootB a r = true) : 0 ≤ r ∧ r.toNat < a.length ∧ (a.getD r.toNat z138).f0 = false := by
  unfold rootB at h
  rw [Bool.and_eq_true, decide_eq_true_eq, Bool.not_eq_true'] at h
  exact ⟨h.1.1, by omega, h.2⟩
theorem iNumber_eq (a : List S138) (r s : Int) (ha : arenaB a = true) (hr : rootB a r = true) (h0 : 0 ≤ s) (h1 : s ≤ 15) : impl_numberAt.f a r s = some (numB a r s) := by
  obtain ⟨r0, rl, rf⟩ := root_lt hr
  obtain ⟨d1, d2, d3, d4, d5, d6⟩ := div4 h0 h1
  have h4 := (knot_of ha rl).1
  have hk := kid_of ha rl rf (j := (s / 4).toNat) (by omega)
  unfold impl_numberAt.f numB
  simp only [d1, d2]
  show (if 0 ≤ r then if r < (a.length : Int) then if 0 ≤ s / 4 then if s / 4 < (((a.getD r.toNat z138).f1.length : Nat) : Int) then if (a.getD r.toNat z138).f1.getD (s / 4).toNat 0 < 0 then some 0 else if 0 ≤ (a.getD r.toNat z138).f1.getD (s / 4).toNat 0 then if (a.getD r.toNat z138).f1.getD (s / 4).toNat 0 < (a.length : Int) then if 0 ≤ s % 4 then if s % 4 < (((a.getD ((a.getD r.toNat z138).f1.getD (s / 4).toNat 0).toNat z138).f1.length : Nat) : Int) then some ((a.getD ((a.getD r.toNat z138).f1.getD (s / 4).toNat 0).toNat z138).f1.getD (s % 4).toNat 0) else none else none else none else none else none else none else none else none) = _
  rw [if_pos r0, if_pos (by omega), if_pos d3, if_pos (by omega)]
  rcases hk with hk | ⟨k0, k1, _⟩
  · rw [if_pos (by omega), if_pos (by omega)]
  · have h5 := (knot_of ha (i := ((a.getD r.toNat z138).f1.getD (s / 4).toNat 0).toNat) (by omega)).1
    rw [if_neg (by omega), if_pos k0, if_pos (by omega), if_pos d5, if_pos (by omega), if_neg (by omega)]
theorem sGet_eq (a : List S138) (r s : Int) (ha : arenaB a = true) (hr : rootB a r = true) (h0 : 0 ≤ s) (h1 : s ≤ 15) : spec_l11Get.f a r s = some (numB a r s) := by
  obtain ⟨r0, rl, rf⟩ := root_lt hr
  have h := iNumber_eq a r s ha hr h0 h1
  unfold impl_numberAt.f at h
  unfold spec_l11Get.f
  rw [if_neg (by omega)]
  exact h
theorem iGetAt_ev (a : List S138) (r s : Int) (hn : a.length ≤ 9223372036854775807) : Ev (fun k => impl_GetAt.f k a r s) (getB a r s) := by
  unfold impl_GetAt.f getB
  simp only [in_eq, iRoot_eq a r hn, Option.bind_some, decide_eq_true_eq]
  by_cases h1 : 0 ≤ s ∧ s ≤ 15
  · by_cases h2 : rootB a r = true
    · simp only [if_pos h1, if_pos h2]
      refine ev_bind (iArena_ev a hn) ?_
      by_cases h3 : arenaB a = true
      · simp only [if_pos h3, if_pos (show (0 ≤ s ∧ s ≤ 15) ∧ rootB a r = true ∧ arenaB a = true from ⟨h1, h2, h3⟩)]
        rw [iNumber_eq a r s h3 h2 h1.1 h1.2]
        exact Ev.now _
      · simp only [if_neg h3, if_neg (show ¬ ((0 ≤ s ∧ s ≤ 15) ∧ rootB a r = true ∧ arenaB a = true) from fun h => h3 h.2.2)]
        exact Ev.now _
    · simp only [if_pos h1, if_neg h2, if_neg (show ¬ ((0 ≤ s ∧ s ≤ 15) ∧ rootB a r = true ∧ arenaB a = true) from fun h => h2 h.2.1)]
      exact Ev.now _
  · simp only [if_neg h1, if_neg (show ¬ ((0 ≤ s ∧ s ≤ 15) ∧ rootB a r = true ∧ arenaB a = true) from fun h => h1 h.1)]
    exact Ev.now _
theorem sGetAt_ev (a : List S138) (r s : Int) (hn : a.length ≤ 9223372036854775807) : Ev (fun k => spec_GetAt.f k a r s) (getB a r s) := by
  unfold spec_GetAt.f getB
  refine ev_bind (sArena_ev a hn) ?_
  by_cases h3 : arenaB a = true
  · simp only [if_pos h3, l01In_eq, sRoot_eq a r hn, Option.bind_some]
    by_cases h2 : rootB a r = true
    · simp only [h2, Bool.or_true, if_true]
      by_cases h1 : 0 ≤ s ∧ s ≤ 15
      · simp only [decide_eq_true h1, if_true, if_pos (show (0 ≤ s ∧ s ≤ 15) ∧ True ∧ arenaB a = true from ⟨h1, trivial, h3⟩)]
        rw [sGet_eq a r s h3 h2 h1.1 h1.2]
        exact Ev.now _
      · simp only [decide_eq_false h1, Bool.false_eq_true, if_false, if_neg (show ¬ ((0 ≤ s ∧ s ≤ 15) ∧ True ∧ arenaB a = true) from fun h => h1 h.1)]
        exact Ev.now _
    · have e : getB a r s = 0 := by unfold getB; exact if_neg fun h => h2 h.2.1
      unfold getB at e
      rw [e]
      by_cases h0 : r = -1
      · simp only [decide_eq_true h0, Bool.true_or, if_true]
        by_cases h1 : 0 ≤ s ∧ s ≤ 15
        · simp only [decide_eq_true h1, if_true]
          unfold spec_l11Get.f
          simp only [if_pos (show r < 0 by omega), Option.bind_some]
          exact Ev.now _
        · simp only [decide_eq_false h1, Bool.false_eq_true, if_false]
          exact Ev.now _
      · simp only [decide_eq_false h0, Bool.eq_false_iff.mpr h2, Bool.or_self, Bool.false_eq_true, if_false]
        exact Ev.now _
  · simp only [if_neg h3, if_neg (show ¬ ((0 ≤ s ∧ s ≤ 15) ∧ rootB a r = true ∧ arenaB a = true) from fun h => h3 h.2.2)]
    exact Ev.now _
end Go.Proofs.Ytijbejiajaiciaa.Pu

/- The numbers of all sectors of a tree, as one list; the program's and the reference's AllAt tell it. -/
namespace Go.Proofs.Ytijbejiajaiciaa.Pu
set_option linter.unusedVariables false
set_option linter.unusedSimpArgs false
open Go.RowKit Go.Proofs.Ytijbejiajaiciaa.PC Go.Proofs.YtijbejiajaiciaaW.PrintWords

def allB (a : List S138) (r : Int) : List Int := (List.range' 0 16).map fun (i : Nat) => getB a r (i : Int)
theorem allB_len (a : List S138) (r : Int) : (allB a r).length = 16 := by simp [allB]
theorem allB_get (a : List S138) (r : Int) {i : Nat} (hi : i < 16) : (allB a r).getD i 0 = getB a r (i : Int) := by
  rw [List.getD_eq_getElem?_getD, List.getElem?_eq_getElem (by rw [allB_len]; exact hi)]
  simp [allB]
theorem iAllAt_ev (a : List S138) (r : Int) (hn : a.length ≤ 9223372036854775807) : Ev (fun k => impl_AllAt.f k a r) (allB a r) := by
  have main : ∀ (d i : Nat) (acc : List Int), i + d = 16 → acc.length = i → Ev (fun k => impl_AllAt.l0 k r acc (i : Int) a) (acc ++ (List.range' i d).map fun (i : Nat) => getB a r (i : Int)) := by
    intro d
    induction d with
    | zero => intro i acc hi hl; exact ev_some fun k => by simp only [impl_AllAt.l0]; rw [if_neg (by omega)]; simp
    | succ d ih =>
      intro i acc hi hl
      have h := ih (i + 1) (acc ++ [getB a r (i : Int)]) (by omega) (by simp; omega)
      rw [List.append_assoc, List.singleton_append] at h
      rw [List.range'_succ, List.map_cons]
      refine Ev.step (f := fun k => (impl_GetAt.f k a r (i : Int)).bind fun t => impl_AllAt.l0 k r (acc ++ [t]) ((i + 1 : Nat) : Int) a) (fun k => ?_) (ev_bind (iGetAt_ev a r i hn) h)
      simp only [impl_AllAt.l0]
      rw [if_pos (by omega), wsucc (n := 16) (by omega) (by omega)]
      simp only [if_pos (show acc.length < 17592186044416 by omega)]
  exact main 16 0 [] rfl rfl
theorem sAllAt_ev (a : List S138) (r : Int) (hn : a.length ≤ 9223372036854775807) : Ev (fun k => spec_AllAt.f k a r) (allB a r) := by
  have main : ∀ (d i : Nat) (acc : List Int), i + d = 16 → acc.length = i → Ev (fun k => spec_AllAt.l0 k r acc (i : Int) a) (acc ++ (List.range' i d).map fun (i : Nat) => getB a r (i : Int)) := by
    intro d
    induction d with
    | zero => intro i acc hi hl; exact ev_some fun k => by simp only [spec_AllAt.l0]; rw [if_neg (by omega)]; simp
    | succ d ih =>
      intro i acc hi hl
      have h := ih (i + 1) (acc ++ [getB a r (i : Int)]) (by omega) (by simp; omega)
      rw [List.append_assoc, List.singleton_append] at h
      rw [List.range'_succ, List.map_cons]
      refine Ev.step (f := fun k => (spec_GetAt.f k a r (i : Int)).bind fun t => spec_AllAt.l0 k r (acc ++ [t]) ((i + 1 : Nat) : Int) a) (fun k => ?_) (ev_bind (sGetAt_ev a r i hn) h)
      simp only [spec_AllAt.l0]
      rw [if_pos (by omega), wsucc (n := 16) (by omega) (by omega)]
      simp only [if_pos (show acc.length < 17592186044416 by omega)]
  exact main 16 0 [] rfl rfl
theorem drop_get {α : Type} {l : List α} {i : Nat} (z : α) (h : i < l.length) : l.drop i = l.getD i z :: l.drop (i + 1) := by
  rw [List.drop_eq_getElem_cons h, List.getD_eq_getElem?_getD, List.getElem?_eq_getElem h]; rfl
end Go.Proofs.Ytijbejiajaiciaa.Pu

/- What the functions on stores answer: sizes, copies, comparison, the place of a volume, a sector's chunk. -/
namespace Go.Proofs.Ytijbejiajaiciaa.Pu
set_option linter.unusedVariables false
set_option linter.unusedSimpArgs false
open Go.RowKit Go.Proofs.Ytijbejiajaiciaa.PC Go.Proofs.YtijbejiajaiciaaW.PrintWords

theorem rdLV_nat (l : List S153) (i : Nat) : rd_T153 l (i : Int) = l.getD i z153 := rfl
theorem rdIV_nat (l : List S124) (i : Nat) : rd_T124 l (i : Int) = l.getD i z124 := rfl
def toVl (x : S153) : S124 := ⟨x.f0, x.f1⟩

theorem toVolS_ev (l : List S153) (h : l.length ≤ 1048576) : Ev (fun k => laws_toVolS.f k l) (l.map toVl) := by
  have h1 := ev_fill_all (E := fun _ i => (laws_toVol.f (rd_T153 l i).f0 (rd_T153 l i).f1).bind fun bt => some (⟨bt.1, bt.2⟩ : S124)) (l := l) (z := z153) (g := toVl) (xs := List.replicate l.length z124) (L := fun k xs i => laws_toVolS.l0 k l xs i) (by omega) (fun k xs i => by
    simp only [laws_toVolS.l0, Option.bind_assoc, Option.bind_some]) (fun i hi => by rw [rdLV_nat]; exact Ev.now _) (by simp)
  refine ev_ext (fun k => ?_) h1
  unfold laws_toVolS.f
  rw [if_pos (by omega), if_pos (by simp; omega)]
  simp
theorem toStore_ev (v : List S153) (a : List S134) (n : Int) (hv : v.length ≤ 1048576) (h : a.length ≤ 1048576) (hk : ∀ x ∈ a, x.f1.length ≤ 1048576) : Ev (fun k => laws_toStore.f k v a n) (v.map toVl, toA a, n) := by
  unfold laws_toStore.f
  exact ev_bind (toVolS_ev v hv) (ev_bind (toArena_ev a (by omega) (fun x hx => by have := hk x hx; omega)) (Ev.now _))
theorem eqVolS_ev (l : List S124) (hn : l.length ≤ 1048576) : Ev (fun k => laws_eqVolS.f k l l) true := by
  have h1 := ev_all (n := l.length) (m := l.length) (L := fun k i => laws_eqVolS.l0 k l l i) (E := fun _ i => laws_eqVol.f (rd_T124 l i).f0 (rd_T124 l i).f1 (rd_T124 l i).f0 (rd_T124 l i).f1) (by omega) (Nat.le_refl _) (fun k i => by simp only [laws_eqVolS.l0])
    (fun i _ => ev_const (by simp [laws_eqVol.f])) l.length 0 (by omega)
  refine ev_ext (fun k => ?_) h1
  unfold laws_eqVolS.f
  rw [if_pos rfl]; rfl
theorem eqStore_ev (v : List S124) (a : List S138) (n : Int) (hv : v.length ≤ 1048576) (hn : a.length ≤ 9223372036854775807) (hk : ∀ x ∈ a, x.f1.length ≤ 9223372036854775807) : Ev (fun k => laws_eqStore.f k v a n v a n) true := by
  unfold laws_eqStore.f
  refine ev_bind (eqVolS_ev v hv) ?_
  simp only [if_true]
  refine ev_bind (eqArena_ev a hn hk) ?_
  simp only [if_true]
  exact Ev.now _
theorem szStore_ev (v : List S153) (l : List S134) (n a : Int) (h0 : 0 ≤ a) (h1 : a ≤ 1048576) (hv : v.length ≤ 9223372036854775807) (hn : l.length ≤ 9223372036854775807) (hk : ∀ x ∈ l, x.f1.length ≤ 9223372036854775807) :
    ∃ r, Ev (fun k => laws_szStore.f k v l n a) r ∧ r ≤ a ∧ (0 ≤ r → v.length ≤ 1048576 ∧ l.length ≤ 1048576 ∧ ∀ x ∈ l, x.f1.length ≤ 1048576) := by
  unfold laws_szStore.f laws_szVolS.f
  rw [w64 (by omega) (by omega)]
  by_cases h : a - (v.length : Int) < 0
  · exact ⟨-1, by simp only [if_pos h, Option.bind_some, if_pos (show (-1 : Int) < 0 by omega)]; exact Ev.now _, by omega, fun h2 => by omega⟩
  · simp only [if_neg h, Option.bind_some]
    obtain ⟨r, hr, hra, hq⟩ := szArena_ev l (a - (v.length : Int)) (by omega) (by omega) hn hk
    by_cases h2 : r < 0
    · exact ⟨-1, ev_bind hr (by simp only [if_pos h2]; exact Ev.now _), by omega, fun h3 => by omega⟩
    · refine ⟨r, ev_bind hr (by simp only [if_neg h2]; exact Ev.now _), by omega, fun h3 => ?_⟩
      obtain ⟨a1, a2⟩ := hq h3
      exact ⟨by omega, by omega, fun x hx => by have := a2 x hx; omega⟩
/-- What a law on a store begins with. -/
theorem store_start {v : List S153} {l : List S134} {n a : Int} (h0 : 0 ≤ a) (h1 : a ≤ 1048576) (hv : v.length ≤ maxLen) (hl : l.length ≤ maxLen) (hx : ∀ x ∈ l, x.f1.length ≤ maxLen) :
    ∃ r, Ev (fun k => laws_szStore.f k v l n a) r ∧ r ≤ a ∧ (0 ≤ r → Ev (fun k => laws_toStore.f k v l n) (v.map toVl, toA l, n) ∧ Ev (fun k => laws_eqStore.f k (v.map toVl) (toA l) n (v.map toVl) (toA l) n) true ∧ (v.map toVl).length ≤ 1048576 ∧ (toA l).length ≤ 1048576 ∧ ∀ x ∈ toA l, x.f1.length ≤ 1048576) := by
  unfold maxLen at hv hl hx
  obtain ⟨r, hr, hra, hq⟩ := szStore_ev v l n a h0 h1 (by omega) (by omega) (fun x h => by have := hx x h; omega)
  refine ⟨r, hr, hra, fun h2 => ?_⟩
  obtain ⟨a1, a2, a3⟩ := hq h2
  have hlen : (toA l).length = l.length := by unfold toA; exact List.length_map _
  have hlv : (v.map toVl).length = v.length := List.length_map _
  have hm : ∀ x ∈ toA l, x.f1.length ≤ 1048576 := by
    intro x h
    unfold toA at h
    obtain ⟨y, hy, rfl⟩ := List.mem_map.1 h
    exact a3 y hy
  exact ⟨toStore_ev v l n a1 a2 a3, eqStore_ev _ _ n (by omega) (by omega) (fun x h => by have := hm x h; omega), by omega, by omega, hm⟩

end Go.Proofs.Ytijbejiajaiciaa.Pu

/- The records that make a store anew, as one list; the program's and the reference's BaseRecs tell them. -/
namespace Go.Proofs.Ytijbejiajaiciaa.Pu
set_option linter.unusedVariables false
set_option linter.unusedSimpArgs false
open Go.RowKit Go.Proofs.Ytijbejiajaiciaa.PC Go.Proofs.YtijbejiajaiciaaW.PrintWords

def putsB (id : Int) (L : List Int) (j d : Nat) : List S100 := ((List.range' j d).filter fun j => decide (L.getD j 0 > 0)).map fun (j : Nat) => (⟨4, id, (j : Int), L.getD j 0⟩ : S100)
theorem putsB_le (id : Int) (L : List Int) (j d : Nat) : (putsB id L j d).length ≤ d := by
  unfold putsB
  rw [List.length_map]
  exact Nat.le_trans (List.length_filter_le _ _) (by simp)
theorem puts_step (id : Int) (L : List Int) (j d : Nat) (acc : List S100) : acc ++ putsB id L j (d + 1) = (if L.getD j 0 > 0 then acc ++ [(⟨4, id, (j : Int), L.getD j 0⟩ : S100)] else acc) ++ putsB id L (j + 1) d := by
  unfold putsB
  rw [List.range'_succ]
  by_cases h : L.getD j 0 > 0
  · rw [if_pos h, List.filter_cons_of_pos (p := fun j => decide (L.getD j 0 > 0)) (a := j) (decide_eq_true h), List.map_cons, List.append_assoc]; rfl
  · rw [if_neg h, List.filter_cons_of_neg (p := fun j => decide (L.getD j 0 > 0)) (a := j) (by rw [decide_eq_true_iff]; exact h)]
def volB (a : List S138) (x : S124) : List S100 := (⟨2, x.f0, 0, 0⟩ : S100) :: putsB x.f0 (allB a x.f1) 0 16
def baseB (v : List S124) (a : List S138) (n : Int) : List S100 := (⟨1, 0, n, 0⟩ : S100) :: v.flatMap (volB a)
theorem volB_le (a : List S138) (x : S124) : (volB a x).length ≤ 17 := by
  have := putsB_le x.f0 (allB a x.f1) 0 16
  unfold volB
  simp only [List.length_cons]
  omega
theorem vols_le (a : List S138) : ∀ v : List S124, (v.flatMap (volB a)).length ≤ 17 * v.length
  | [] => by simp
  | x :: v => by
    have h1 := volB_le a x
    have h2 := vols_le a v
    rw [List.flatMap_cons, List.length_append, List.length_cons]
    omega
theorem baseB_le (v : List S124) (a : List S138) (n : Int) (hv : v.length ≤ 1048576) : (baseB v a n).length ≤ 17825793 := by
  have := vols_le a v
  unfold baseB
  simp only [List.length_cons]
  omega
theorem iBase_ev (v : List S124) (a : List S138) (n : Int) (hv : v.length ≤ 1048576) (ha : a.length ≤ 9223372036854775807) : Ev (fun k => impl_BaseRecs.f k v a n) (baseB v a n) := by
  have inner : ∀ (i : Nat) (L : List Int), i < v.length → L.length = 16 → ∀ r, ∀ (d j : Nat) (acc : List S100), j + d = 16 → acc.length + d ≤ 4398046511103 → Ev (fun k => impl_BaseRecs.l0 k (acc ++ putsB (v.getD i z124).f0 L j d) v (v.length : Int) ((i + 1 : Nat) : Int) v a n) r →
      Ev (fun k => impl_BaseRecs.l1 k acc v (v.length : Int) (i : Int) L (L.length : Int) (j : Int) v a n (v.getD i z124).f0 (v.getD i z124).f1) r := by
    intro i L hi hL r d
    induction d with
    | zero =>
      intro j acc hj hb hr
      refine Ev.step (fun k => ?_) hr
      simp only [impl_BaseRecs.l1]
      rw [if_neg (by omega), wsucc (n := v.length) hi (by omega)]
      simp [putsB]
    | succ d ih =>
      intro j acc hj hb hr
      rw [puts_step] at hr
      have er : rd L (j : Int) = L.getD j 0 := rfl
      by_cases h : L.getD j 0 > 0
      · simp only [if_pos h] at hr
        refine Ev.step (fun k => ?_) (ih (j + 1) _ (by omega) (by rw [List.length_append]; simp; omega) hr)
        simp only [impl_BaseRecs.l1]
        rw [if_pos (by omega), if_pos (by omega), if_pos (by omega), er, if_pos h, if_pos (by omega), wsucc (n := 16) (by omega) (by omega)]
      · simp only [if_neg h] at hr
        refine Ev.step (fun k => ?_) (ih (j + 1) _ (by omega) (by omega) hr)
        simp only [impl_BaseRecs.l1]
        rw [if_pos (by omega), if_pos (by omega), if_pos (by omega), er, if_neg h, wsucc (n := 16) (by omega) (by omega)]
  have main : ∀ (d i : Nat) (acc : List S100), i + d = v.length → acc.length + 17 * d ≤ 4398046511103 → Ev (fun k => impl_BaseRecs.l0 k acc v (v.length : Int) (i : Int) v a n) (acc ++ (v.drop i).flatMap (volB a)) := by
    intro d
    induction d with
    | zero => intro i acc hi hb; exact ev_some fun k => by simp only [impl_BaseRecs.l0]; rw [if_neg (by omega), List.drop_eq_nil_of_le (by omega)]; simp
    | succ d ih =>
      intro i acc hi hb
      have hp := putsB_le (v.getD i z124).f0 (allB a (v.getD i z124).f1) 0 16
      have h := ih (i + 1) ((acc ++ [(⟨2, (v.getD i z124).f0, 0, 0⟩ : S100)]) ++ putsB (v.getD i z124).f0 (allB a (v.getD i z124).f1) 0 16) (by omega) (by rw [List.length_append, List.length_append]; simp only [List.length_cons, List.length_nil]; omega)
      rw [drop_get z124 (by omega), List.flatMap_cons]
      have e1 : acc ++ (volB a (v.getD i z124) ++ (v.drop (i + 1)).flatMap (volB a)) = ((acc ++ [(⟨2, (v.getD i z124).f0, 0, 0⟩ : S100)]) ++ putsB (v.getD i z124).f0 (allB a (v.getD i z124).f1) 0 16) ++ (v.drop (i + 1)).flatMap (volB a) := by
        simp [volB]
      rw [e1]
      refine Ev.step (f := fun k => (impl_AllAt.f k a (v.getD i z124).f1).bind fun t => impl_BaseRecs.l1 k (acc ++ [(⟨2, (v.getD i z124).f0, 0, 0⟩ : S100)]) v (v.length : Int) (i : Int) t (t.length : Int) 0 v a n (v.getD i z124).f0 (v.getD i z124).f1) (fun k => ?_) (ev_bind (iAllAt_ev a _ ha) ?_)
      · simp only [impl_BaseRecs.l0]
        rw [if_pos (by omega), if_pos (by omega), if_pos (by omega), if_pos (by omega), rdIV_nat]
      · exact inner i _ (by omega) (allB_len _ _) _ 16 0 _ (by omega) (by rw [List.length_append]; simp only [List.length_cons, List.length_nil]; omega) h
  have h := main v.length 0 [(⟨1, 0, n, 0⟩ : S100)] (by omega) (by simp only [List.length_cons, List.length_nil]; omega)
  exact h
theorem sBase_ev (v : List S124) (a : List S138) (n : Int) (hv : v.length ≤ 1048576) (ha : a.length ≤ 9223372036854775807) : Ev (fun k => spec_BaseRecs.f k v a n) (baseB v a n) := by
  have inner : ∀ (i : Nat) (L : List Int), i < v.length → L.length = 16 → ∀ r, ∀ (d j : Nat) (acc : List S100), j + d = 16 → acc.length + d ≤ 4398046511103 → Ev (fun k => spec_BaseRecs.l0 k (acc ++ putsB (v.getD i z124).f0 L j d) ((i + 1 : Nat) : Int) v a n) r →
      Ev (fun k => spec_BaseRecs.l1 k acc (i : Int) L (j : Int) v a n) r := by
    intro i L hi hL r d
    induction d with
    | zero =>
      intro j acc hj hb hr
      refine Ev.step (fun k => ?_) hr
      simp only [spec_BaseRecs.l1]
      rw [if_neg (by omega), wsucc (n := v.length) hi (by omega)]
      simp [putsB]
    | succ d ih =>
      intro j acc hj hb hr
      rw [puts_step] at hr
      have er : rd L (j : Int) = L.getD j 0 := rfl
      by_cases h : L.getD j 0 > 0
      · simp only [if_pos h] at hr
        refine Ev.step (fun k => ?_) (ih (j + 1) _ (by omega) (by rw [List.length_append]; simp; omega) hr)
        simp only [spec_BaseRecs.l1]
        rw [if_pos (by omega), if_pos (by omega), er, if_pos h, if_pos (by omega), if_pos (by omega), if_pos (by omega), wsucc (n := 16) (by omega) (by omega), rdIV_nat]
      · simp only [if_neg h] at hr
        refine Ev.step (fun k => ?_) (ih (j + 1) _ (by omega) (by omega) hr)
        simp only [spec_BaseRecs.l1]
        rw [if_pos (by omega), if_pos (by omega), er, if_neg h, wsucc (n := 16) (by omega) (by omega)]
  have main : ∀ (d i : Nat) (acc : List S100), i + d = v.length → acc.length + 17 * d ≤ 4398046511103 → Ev (fun k => spec_BaseRecs.l0 k acc (i : Int) v a n) (acc ++ (v.drop i).flatMap (volB a)) := by
    intro d
    induction d with
    | zero => intro i acc hi hb; exact ev_some fun k => by simp only [spec_BaseRecs.l0]; rw [if_neg (by omega), List.drop_eq_nil_of_le (by omega)]; simp
    | succ d ih =>
      intro i acc hi hb
      have hp := putsB_le (v.getD i z124).f0 (allB a (v.getD i z124).f1) 0 16
      have h := ih (i + 1) ((acc ++ [(⟨2, (v.getD i z124).f0, 0, 0⟩ : S100)]) ++ putsB (v.getD i z124).f0 (allB a (v.getD i z124).f1) 0 16) (by omega) (by rw [List.length_append, List.length_append]; simp only [List.length_cons, List.length_nil]; omega)
      rw [drop_get z124 (by omega), List.flatMap_cons]
      have e1 : acc ++ (volB a (v.getD i z124) ++ (v.drop (i + 1)).flatMap (volB a)) = ((acc ++ [(⟨2, (v.getD i z124).f0, 0, 0⟩ : S100)]) ++ putsB (v.getD i z124).f0 (allB a (v.getD i z124).f1) 0 16) ++ (v.drop (i + 1)).flatMap (volB a) := by
        simp [volB]
      rw [e1]
      refine Ev.step (f := fun k => (spec_AllAt.f k a (v.getD i z124).f1).bind fun t => spec_BaseRecs.l1 k (acc ++ [(⟨2, (v.getD i z124).f0, 0, 0⟩ : S100)]) (i : Int) t 0 v a n) (fun k => ?_) (ev_bind (sAllAt_ev a _ ha) ?_)
      · simp only [spec_BaseRecs.l0]
        rw [if_pos (by omega), if_pos (by omega), if_pos (by omega), rdIV_nat]
      · exact inner i _ (by omega) (allB_len _ _) _ 16 0 _ (by omega) (by rw [List.length_append]; simp only [List.length_cons, List.length_nil]; omega) h
  have h := main v.length 0 [(⟨1, 0, n, 0⟩ : S100)] (by omega) (by simp only [List.length_cons, List.length_nil]; omega)
  exact h
end Go.Proofs.Ytijbejiajaiciaa.Pu

/- Functions of the translation as plain Lean functions, and for each that its call comes to just what its Lean function answers; its conditions stand in each theorem. Written by a program of this session. -/
namespace Go.Proofs.Ytijbejiajaiciaa.PC
open Go.RowKit Go.Proofs.YtijbejiajaiciaaW.PrintWords Go.Proofs.YtijbejiajaiciaaW.PrintLast Go.Proofs.YtijbejiajaiciaaW.PrintMore
attribute [local go_sem] max2_int min2_int max_two min_two max_three min_three max_four min_four   -- for this text's walks alone
set_option linter.unusedVariables false
set_option linter.unusedSimpArgs false

/-! ### laws_heldIntS: function 30 -/
def laws_heldIntS.l0 : Nat → List Int → Int → Int → Option (Int)
  | 0, _, _, _ => none
  | k + 1, x0, x1, x5 => if x5 < (x0.length : Int) then (if 0 ≤ x5 then (if (rd x0 x5) = x1 then (laws_heldIntS.l0 k x0 (wrap64 (x1 + 1)) (wrap64 (x5 + 1))) else (some (-1))) else (none)) else (some x1)
def laws_heldIntS.f (k : Nat) (l0 : List Int) (a1 : Int) : Option (Int) := laws_heldIntS.l0 k l0 a1 0
theorem laws_heldIntS.mono_l : ∀ k, (∀ y0 y1 y2, LeO (laws_heldIntS.l0 k y0 y1 y2) (laws_heldIntS.l0 (k + 1) y0 y1 y2))
  | 0 => fun _ _ _ r h => by simp [laws_heldIntS.l0] at h
  | k + 1 => by
    have ih0 := laws_heldIntS.mono_l k
    · intro y0 y1 y2
      unfold laws_heldIntS.l0
      repeat' first
      | (with_reducible exact ih0 _ _ _)
      | (with_reducible exact LeO.refl _)
      | (with_reducible exact LeO.none _)
      | (with_reducible refine LeO.ite ?_ ?_)
      | (with_reducible refine LeO.bind ?_ (fun _ => ?_))
      | exact ih0 _ _ _
      | exact LeO.none _
      | refine LeO.ite ?_ ?_
      | refine LeO.bind ?_ (fun _ => ?_)
theorem laws_heldIntS.mono : ∀ a0 a1 k, LeO (laws_heldIntS.f k a0 a1) (laws_heldIntS.f (k + 1) a0 a1) := by
  intro a0 a1 k
  have ih0 := laws_heldIntS.mono_l k
  unfold laws_heldIntS.f
  repeat' first
      | (with_reducible exact ih0 _ _ _)
      | (with_reducible exact LeO.refl _)
      | (with_reducible exact LeO.none _)
      | (with_reducible refine LeO.ite ?_ ?_)
      | (with_reducible refine LeO.bind ?_ (fun _ => ?_))
      | exact ih0 _ _ _
      | exact LeO.none _
      | refine LeO.ite ?_ ?_
      | refine LeO.bind ?_ (fun _ => ?_)
set_option maxHeartbeats 8000000 in
set_option maxRecDepth 100000 in
theorem laws_heldIntS.calls (k : Nat) (A0 : Option Addr) (c0 : Nat) (l0 : List Int) (a1 : Int) (r : Int) (w : World) (hr0 : Kd.C (Kd.int .i64) w A0 l0.length l0) (hc0 : l0.length ≤ c0) (h : laws_heldIntS.f k l0 a1 = some r) :
    Calls Try.prog 30 #[.slice A0 l0.length c0, .int .i64 a1] w fun e w' => e = .returned (.int .i64 r) ∧ Drawn0 w w' := by
  have HR0 := Aside0.mk hr0
  have HC0 := Aside0.mk hc0
  clear hr0 hc0
  have H : (laws_heldIntS.l0 k l0 a1 0) = some r := h
  clear h
  have H' := Aside0.mk H
  clear H
  go_enter Try.func30, Try.ntmps30
  go_wp2
  go_loopg [1, 5] k (fun kq v1 v5 w' => ∃ (x1_1 : Int) (x5_1 : Int), v1 = .int .i64 x1_1 ∧ v5 = .int .i64 x5_1 ∧ Aside0 (laws_heldIntS.l0 kq l0 x1_1 x5_1 = some r) ∧ Aside0 (kq ≤ k) ∧ Drawn0 w w')
  case atStart => exact ⟨(a1), (0), (by first | rfl | (simp; done) | (simp [*]; done)), (by first | rfl | (simp; done) | (simp [*]; done)), H', ⟨Nat.le_refl _⟩, by repeat (first | exact Drawn0.refl _ | apply Drawn0.step)⟩
  case round =>
    clear H'
    try clear p2
    obtain ⟨x1_1, x5_1, rfl, rfl, HA, HK1, ⟨m1, rfl⟩⟩ := hrel
    cases gk with
    | zero => exact absurd HA.out (by simp [laws_heldIntS.l0])
    | succ k1 =>
      have H := HA.out
      clear HA
      simp only [laws_heldIntS.l0] at H
      by_cases c3 : x5_1 < (l0.length : Int)
      · rw [if_pos c3] at H
        have c3b0 : decide (x5_1 < (l0.length : Int)) = true := decide_eq_true c3
        clear c3
        by_cases c4 : 0 ≤ x5_1
        · rw [if_pos c4] at H
          have c4b0 : decide (0 ≤ x5_1) = true := decide_eq_true c4
          clear c4
          by_cases c5 : (rd l0 x5_1) = x1_1
          · rw [if_pos c5] at H
            have c5b0 : ((rd l0 x5_1) == x1_1) = true := beq_iff_eq.mpr c5
            have c5b1 : ((rd l0 x5_1) != x1_1) = false := bne_eq_false_iff_eq.mpr c5
            clear c5
            have H' := Aside0.mk H
            clear H
            have p134 : 0 ≤ (x5_1 : Int) := of_decide_eq_true (by first | (with_reducible assumption) | assumption)
            have q134 : x5_1 < (l0.length : Int) := of_decide_eq_true (by first | (with_reducible assumption) | assumption)
            obtain ⟨ad134, e134, hx134_0⟩ := Kd.at_int HR0.out x5_1 p134 q134
            cases e134
            replace p134 := eq_true p134
            replace q134 := eq_true q134
            go_wp2
            go_roundg k1
            case measure => have := HK1.out; omega
            case rel => exact ⟨(wrap64 (x1_1 + 1)), (wrap64 (x5_1 + 1)), (by first | rfl | (simp; done) | (simp [*]; done)), (by first | rfl | (simp; done) | (simp [*]; done)), H', ⟨by have := HK1.out; omega⟩, by repeat (first | exact Drawn0.refl _ | apply Drawn0.step)⟩
          · rw [if_neg c5] at H
            have c5b0 : ((rd l0 x5_1) == x1_1) = false := beq_eq_false_iff_ne.mpr c5
            have c5b1 : ((rd l0 x5_1) != x1_1) = true := bne_iff_ne.mpr c5
            obtain rfl := Option.some.inj H
            have p134 : 0 ≤ (x5_1 : Int) := of_decide_eq_true (by first | (with_reducible assumption) | assumption)
            have q134 : x5_1 < (l0.length : Int) := of_decide_eq_true (by first | (with_reducible assumption) | assumption)
            obtain ⟨ad134, e134, hx134_0⟩ := Kd.at_int HR0.out x5_1 p134 q134
            cases e134
            replace p134 := eq_true p134
            replace q134 := eq_true q134
            go_wp2
            go_ret
            exact ⟨by first | rfl | (simp; done) | (simp [*]; done), by repeat (first | exact Drawn0.refl _ | apply Drawn0.step)⟩
        · rw [if_neg c4] at H
          exact absurd H (by simp)
      · rw [if_neg c3] at H
        have c3b0 : decide (x5_1 < (l0.length : Int)) = false := decide_eq_false c3
        clear c3
        obtain rfl := Option.some.inj H
        go_wp2
        go_ret
        exact ⟨by first | rfl | (simp; done) | (simp [*]; done), by repeat (first | exact Drawn0.refl _ | apply Drawn0.step)⟩

end Go.Proofs.Ytijbejiajaiciaa.PC

/- Marks: what a row's places are marked with is held there again, and the count goes on alike. -/
namespace Go.Proofs.Ytijbejiajaiciaa.Pu
set_option linter.unusedVariables false
set_option linter.unusedSimpArgs false
open Go.RowKit Go.Proofs.Ytijbejiajaiciaa.PC Go.Proofs.YtijbejiajaiciaaW.PrintWords

theorem getD_set_self {α : Type} {xs : List α} {i : Nat} {x z : α} (h : i < xs.length) : (xs.set i x).getD i z = x := by
  rw [List.getD_eq_getElem?_getD, List.getElem?_set_self h]; rfl
theorem getD_set_ne {α : Type} {xs : List α} {i j : Nat} {x z : α} (h : i ≠ j) : (xs.set i x).getD j z = xs.getD j z := by
  rw [List.getD_eq_getElem?_getD, List.getD_eq_getElem?_getD, List.getElem?_set_ne h]
/-- A row that is marked place by place, and held so. -/
theorem ev_mark {α : Type} (z : α) {L : Nat → List α → Int → Int → Option (Int × List α)} {Hd : Nat → List α → Int → Int → Option Int} (E : Nat → α → Int → Option (Int × α)) (G : Nat → α → Int → Option Int) (c : Int) (P : α → Prop)
    (hL : ∀ k (xs : List α) (a : Int) (i : Nat), i < xs.length → 0 ≤ a → a + c ≤ 4611686018427387904 → L (k + 1) xs a (i : Int) = (E k (xs.getD i z) a).bind fun b => L k (xs.set i b.2) b.1 (wrap64 ((i : Int) + 1)))
    (hL0 : ∀ k (xs : List α) (a : Int) (i : Nat), xs.length ≤ i → L (k + 1) xs a (i : Int) = some (a, xs))
    (hH : ∀ k (xs : List α) (a : Int) (i : Nat), i < xs.length → 0 ≤ a → a + c ≤ 4611686018427387904 → Hd (k + 1) xs a (i : Int) = (G k (xs.getD i z) a).bind fun t => if t < 0 then some (-1) else Hd k xs t (wrap64 ((i : Int) + 1)))
    (hH0 : ∀ k (xs : List α) (a : Int) (i : Nat), xs.length ≤ i → Hd (k + 1) xs a (i : Int) = some a)
    (hc : 0 ≤ c)
    (hE : ∀ x a, P x → 0 ≤ a → a + c ≤ 4611686018427387904 → ∃ a' x', Ev (fun k => E k x a) (a', x') ∧ Ev (fun k => G k x' a) a' ∧ a ≤ a' ∧ a' ≤ a + c) :
    ∀ (d i : Nat) (xs : List α) (a : Int), i + d = xs.length → xs.length ≤ 9223372036854775807 → (∀ j, i ≤ j → j < xs.length → P (xs.getD j z)) → 0 ≤ a → a + d * c ≤ 4611686018427387904 →
      ∃ a' xs', xs'.length = xs.length ∧ (∀ j, j < i → xs'.getD j z = xs.getD j z) ∧ Ev (fun k => L k xs a (i : Int)) (a', xs') ∧ Ev (fun k => Hd k xs' a (i : Int)) a' ∧ a ≤ a' ∧ a' ≤ a + d * c := by
  intro d
  induction d with
  | zero =>
    intro i xs a hi hn hP ha hM
    exact ⟨a, xs, rfl, fun _ _ => rfl, ev_some fun k => hL0 k xs a i (by omega), ev_some fun k => hH0 k xs a i (by omega), Int.le_refl _, by simp⟩
  | succ d ih =>
    intro i xs a hi hn hP ha hM
    have hdc : 0 ≤ (d : Int) * c := Int.mul_nonneg (by omega) hc
    have hds : ((d + 1 : Nat) : Int) * c = (d : Int) * c + c := by rw [Int.natCast_add, Int.add_mul]; simp
    rw [hds] at hM
    obtain ⟨a1, x1, hE1, hG1, h1, h2⟩ := hE (xs.getD i z) a (hP i (Nat.le_refl _) (by omega)) ha (by omega)
    have hlen : (xs.set i x1).length = xs.length := List.length_set
    obtain ⟨a', xs', hl', hb', hL', hH', h3, h4⟩ := ih (i + 1) (xs.set i x1) a1 (by rw [hlen]; omega) (by rw [hlen]; exact hn) (fun j hj hj2 => by
      rw [hlen] at hj2
      rw [getD_set_ne (by omega)]
      exact hP j (by omega) hj2) (by omega) (by omega)
    have hxi : xs'.getD i z = x1 := by rw [hb' i (by omega), getD_set_self (by omega)]
    refine ⟨a', xs', by rw [hl', hlen], fun j hj => by rw [hb' j (by omega), getD_set_ne (by omega)], ?_, ?_, by omega, by rw [hds]; omega⟩
    · refine Ev.step (fun k => hL k xs a i (by omega) ha (by omega)) (ev_bind hE1 ?_)
      simp only [wsucc (n := xs.length) (i := i) (by omega) hn]
      exact hL'
    · refine Ev.step (fun k => hH k xs' a i (by rw [hl', hlen]; omega) ha (by omega)) ?_
      rw [hxi]
      refine ev_bind hG1 ?_
      simp only [if_neg (show ¬ a1 < 0 by omega), wsucc (n := xs.length) (i := i) (by omega) hn]
      exact hH'

/-- Whole numbers. -/
theorem mark_int (l : List Int) (a : Int) (hn : (l.length : Int) ≤ 1099511627776) (ha : 0 ≤ a) (hM : a + l.length ≤ 4611686018427387904) :
    ∃ a' l', l'.length = l.length ∧ Ev (fun k => laws_markIntS.f k l a) (a', l') ∧ Ev (fun k => laws_heldIntS.f k l' a) a' ∧ a ≤ a' ∧ a' ≤ a + l.length := by
  obtain ⟨a', l', h1, _, h2, h3, h4, h5⟩ := ev_mark (0 : Int) (L := fun k xs a i => laws_markIntS.l0 k xs a i) (Hd := fun k xs a i => laws_heldIntS.l0 k xs a i)
    (fun _ _ a => some (wrap64 (a + 1), a)) (fun _ x a => if x = a then some (wrap64 (a + 1)) else some (-1)) 1 (fun _ => True)
    (fun k xs a i hi _ _ => by
      simp only [laws_markIntS.l0]
      rw [if_pos (by omega), if_pos (by omega)]
      rfl)
    (fun k xs a i hi => by
      simp only [laws_markIntS.l0]
      rw [if_neg (by omega)])
    (fun k xs a i hi h0 h1 => by
      simp only [laws_heldIntS.l0]
      rw [if_pos (by omega), if_pos (by omega)]
      show (if xs.getD i 0 = a then _ else _) = _
      by_cases h : xs.getD i 0 = a
      · rw [if_pos h, if_pos h, w64 (by omega) (by omega)]
        simp only [Option.bind_some]
        rw [if_neg (by omega)]
      · rw [if_neg h, if_neg h]
        rfl)
    (fun k xs a i hi => by
      simp only [laws_heldIntS.l0]
      rw [if_neg (by omega)])
    (by omega)
    (fun x a _ h0 h1 => ⟨a + 1, a, ev_const (by rw [w64 (by omega) (by omega)]), ev_const (by rw [if_pos rfl, w64 (by omega) (by omega)]), by omega, by omega⟩)
    l.length 0 l a (by omega) (by omega) (fun _ _ _ => trivial) ha (by omega)
  exact ⟨a', l', h1, h2, h3, h4, by omega⟩
end Go.Proofs.Ytijbejiajaiciaa.Pu

/- Functions of the translation as plain Lean functions, and for each that its call comes to just what its Lean function answers; its conditions stand in each theorem. Written by a program of this session. -/
namespace Go.Proofs.Ytijbejiajaiciaa.PC
open Go.RowKit Go.Proofs.YtijbejiajaiciaaW.PrintWords Go.Proofs.YtijbejiajaiciaaW.PrintLast Go.Proofs.YtijbejiajaiciaaW.PrintMore
attribute [local go_sem] max2_int min2_int max_two min_two max_three min_three max_four min_four   -- for this text's walks alone
set_option linter.unusedVariables false
set_option linter.unusedSimpArgs false

/-! ### laws_heldKnotS: function 87 -/
def laws_heldKnotS.l0 : Nat → List (S138) → Int → Int → Option (Int)
  | 0, _, _, _ => none
  | k + 1, x0, x1, x5 => if x5 < (x0.length : Int) then (if 0 ≤ x5 then (if (((rd_T138 x0 x5).f0) != ((Int.tmod x1 3) == 0)) = true then (some (-1)) else ((laws_heldIntS.f k ((rd_T138 x0 x5).f1) (wrap64 (x1 + 1))).bind fun t137 => (if t137 < 0 then (some (-1)) else (laws_heldKnotS.l0 k x0 t137 (wrap64 (x5 + 1)))))) else (none)) else (some x1)
def laws_heldKnotS.f (k : Nat) (l0 : List (S138)) (a1 : Int) : Option (Int) := laws_heldKnotS.l0 k l0 a1 0
theorem laws_heldKnotS.mono_l : ∀ k, (∀ y0 y1 y2, LeO (laws_heldKnotS.l0 k y0 y1 y2) (laws_heldKnotS.l0 (k + 1) y0 y1 y2))
  | 0 => fun _ _ _ r h => by simp [laws_heldKnotS.l0] at h
  | k + 1 => by
    have ih0 := laws_heldKnotS.mono_l k
    · intro y0 y1 y2
      unfold laws_heldKnotS.l0
      repeat' first
      | (with_reducible exact ih0 _ _ _)
      | (with_reducible exact laws_heldIntS.mono _ _ _)
      | (with_reducible exact LeO.refl _)
      | (with_reducible exact LeO.none _)
      | (with_reducible refine LeO.ite ?_ ?_)
      | (with_reducible refine LeO.bind ?_ (fun _ => ?_))
      | exact ih0 _ _ _
      | exact laws_heldIntS.mono _ _ _
      | exact LeO.none _
      | refine LeO.ite ?_ ?_
      | refine LeO.bind ?_ (fun _ => ?_)
theorem laws_heldKnotS.mono : ∀ a0 a1 k, LeO (laws_heldKnotS.f k a0 a1) (laws_heldKnotS.f (k + 1) a0 a1) := by
  intro a0 a1 k
  have ih0 := laws_heldKnotS.mono_l k
  unfold laws_heldKnotS.f
  repeat' first
      | (with_reducible exact ih0 _ _ _)
      | (with_reducible exact laws_heldIntS.mono _ _ _)
      | (with_reducible exact LeO.refl _)
      | (with_reducible exact LeO.none _)
      | (with_reducible refine LeO.ite ?_ ?_)
      | (with_reducible refine LeO.bind ?_ (fun _ => ?_))
      | exact ih0 _ _ _
      | exact laws_heldIntS.mono _ _ _
      | exact LeO.none _
      | refine LeO.ite ?_ ?_
      | refine LeO.bind ?_ (fun _ => ?_)
set_option maxHeartbeats 8000000 in
set_option maxRecDepth 100000 in
theorem laws_heldKnotS.calls (k : Nat) (A0 : Option Addr) (c0 : Nat) (l0 : List (S138)) (a1 : Int) (r : Int) (w : World) (hr0 : Kd.C k138 w A0 l0.length l0) (hc0 : l0.length ≤ c0) (h : laws_heldKnotS.f k l0 a1 = some r) :
    Calls Try.prog 87 #[.slice A0 l0.length c0, .int .i64 a1] w fun e w' => e = .returned (.int .i64 r) ∧ Drawn0 w w' := by
  have HR0 := Aside0.mk hr0
  have HC0 := Aside0.mk hc0
  clear hr0 hc0
  have H : (laws_heldKnotS.l0 k l0 a1 0) = some r := h
  clear h
  have H' := Aside0.mk H
  clear H
  go_enter Try.func87, Try.ntmps87
  go_wp2
  go_loopg [1, 5] k (fun kq v1 v5 w' => ∃ (x1_1 : Int) (x5_1 : Int), v1 = .int .i64 x1_1 ∧ v5 = .int .i64 x5_1 ∧ Aside0 (laws_heldKnotS.l0 kq l0 x1_1 x5_1 = some r) ∧ Aside0 (kq ≤ k) ∧ Drawn0 w w')
  case atStart => exact ⟨(a1), (0), (by first | rfl | (simp; done) | (simp [*]; done)), (by first | rfl | (simp; done) | (simp [*]; done)), H', ⟨Nat.le_refl _⟩, by repeat (first | exact Drawn0.refl _ | apply Drawn0.step)⟩
  case round =>
    clear H'
    try clear p2
    obtain ⟨x1_1, x5_1, rfl, rfl, HA, HK1, ⟨m1, rfl⟩⟩ := hrel
    cases gk with
    | zero => exact absurd HA.out (by simp [laws_heldKnotS.l0])
    | succ k1 =>
      have H := HA.out
      clear HA
      simp only [laws_heldKnotS.l0] at H
      by_cases c3 : x5_1 < (l0.length : Int)
      · rw [if_pos c3] at H
        have c3b0 : decide (x5_1 < (l0.length : Int)) = true := decide_eq_true c3
        clear c3
        by_cases c4 : 0 ≤ x5_1
        · rw [if_pos c4] at H
          have c4b0 : decide (0 ≤ x5_1) = true := decide_eq_true c4
          clear c4
          by_cases c5 : (((rd_T138 l0 x5_1).f0) != ((Int.tmod x1_1 3) == 0)) = true
          · rw [if_pos c5] at H
            have c5b0 : (((rd_T138 l0 x5_1).f0) != ((Int.tmod x1_1 3) == 0)) = true := c5
            (try (have c5b1 : decide (((rd_T138 l0 x5_1).f0) = ((Int.tmod x1_1 3) == 0)) = false := by simpa using c5))
            (try (have c5b2 : (((rd_T138 l0 x5_1).f0) == ((Int.tmod x1_1 3) == 0)) = false := by simpa using c5))
            (try (have c5b3 : ¬ (((rd_T138 l0 x5_1).f0) = ((Int.tmod x1_1 3) == 0)) := by simpa using c5))
            clear c5
            obtain rfl := Option.some.inj H
            have p135 : 0 ≤ (x5_1 : Int) := of_decide_eq_true (by first | (with_reducible assumption) | assumption)
            have q135 : x5_1 < (l0.length : Int) := of_decide_eq_true (by first | (with_reducible assumption) | assumption)
            obtain ⟨ad135, A135_1, c135_1, e135, hx135_0, hx135_1, hl135_1, hi135_1⟩ := at_T138 HR0.out x5_1 p135 q135
            cases e135
            have HR135_1 := Aside0.mk hi135_1
            have HC135_1 := Aside0.mk hl135_1
            clear hi135_1 hl135_1
            replace p135 := eq_true p135
            replace q135 := eq_true q135
            go_wp2
            go_ret
            exact ⟨by first | rfl | (simp; done) | (simp [*]; done), by repeat (first | exact Drawn0.refl _ | apply Drawn0.step)⟩
          · rw [if_neg c5] at H
            have c5b0 : (((rd_T138 l0 x5_1).f0) != ((Int.tmod x1_1 3) == 0)) = false := by simpa using c5
            (try (have c5b1 : decide (((rd_T138 l0 x5_1).f0) = ((Int.tmod x1_1 3) == 0)) = true := by simpa using c5))
            (try (have c5b2 : (((rd_T138 l0 x5_1).f0) == ((Int.tmod x1_1 3) == 0)) = true := by simpa using c5))
            clear c5
            replace H := Option.bind_eq_some_iff.mp H
            obtain ⟨t137, A60, H⟩ := H
            replace H : (if t137 < 0 then (some (-1)) else (laws_heldKnotS.l0 k1 l0 t137 (wrap64 (x5_1 + 1)))) = some r := H
            have A6 := Aside0.mk A60
            clear A60
            by_cases c7 : t137 < 0
            · rw [if_pos c7] at H
              have c7b0 : decide (t137 < 0) = true := decide_eq_true c7
              clear c7
              obtain rfl := Option.some.inj H
              have p135 : 0 ≤ (x5_1 : Int) := of_decide_eq_true (by first | (with_reducible assumption) | assumption)
              have q135 : x5_1 < (l0.length : Int) := of_decide_eq_true (by first | (with_reducible assumption) | assumption)
              obtain ⟨ad135, A135_1, c135_1, e135, hx135_0, hx135_1, hl135_1, hi135_1⟩ := at_T138 HR0.out x5_1 p135 q135
              cases e135
              have HR135_1 := Aside0.mk hi135_1
              have HC135_1 := Aside0.mk hl135_1
              clear hi135_1 hl135_1
              replace p135 := eq_true p135
              replace q135 := eq_true q135
              have p136 : 0 ≤ (x5_1 : Int) := of_decide_eq_true (by first | (with_reducible assumption) | assumption)
              have q136 : x5_1 < (l0.length : Int) := of_decide_eq_true (by first | (with_reducible assumption) | assumption)
              obtain ⟨ad136, A136_1, c136_1, e136, hx136_0, hx136_1, hl136_1, hi136_1⟩ := at_T138 HR0.out x5_1 p136 q136
              obtain rfl : ad135 = ad136 := (by injection e136)
              have HR136_1 := Aside0.mk hi136_1
              have HC136_1 := Aside0.mk hl136_1
              clear hi136_1 hl136_1
              replace p136 := eq_true p136
              replace q136 := eq_true q136
              have ea_ := Option.some.inj (hx135_1.symm.trans hx136_1)
              injection ea_ with ea_ en_ ec_
              subst ea_
              subst ec_
              clear en_
              go_wp2_with (first | ((with_reducible refine gate_callee (f := 30) rfl ?_); refine goesL_ (some 29) rfl rfl Try.func30 (by kernel_rfl) rfl #[.slice A135_1 ((rd_T138 l0 x5_1).f1).length c135_1, .int .i64 (wrap64 (x1_1 + 1))] rfl (by (try simp only [List.map_toArray, List.map_cons, List.map_nil]); first | done | rfl | (simp only [List.length_drop, List.length_take]; rfl)) ?_; (with_reducible refine (laws_heldIntS.calls k1 _ _ ((rd_T138 l0 x5_1).f1) (wrap64 (x1_1 + 1)) t137 _ ?side1 ?side2 A6.out).mono ?_); (case side1 => repeat (first | exact HR136_1.out | (with_reducible refine Kd.C_alloc ?_ _) | (with_reducible refine Kd.C_drewN ?_ _) | (with_reducible refine Kd.C_drew ?_))); (case side2 => exact HC136_1.out); rintro e w' ⟨rfl, ⟨nd, rfl⟩⟩; refine ⟨_, rfl, ?_⟩))
              go_ret
              exact ⟨by first | rfl | (simp; done) | (simp [*]; done), by repeat (first | exact Drawn0.refl _ | apply Drawn0.step)⟩
            · rw [if_neg c7] at H
              have c7b0 : decide (t137 < 0) = false := decide_eq_false c7
              clear c7
              have H' := Aside0.mk H
              clear H
              have p135 : 0 ≤ (x5_1 : Int) := of_decide_eq_true (by first | (with_reducible assumption) | assumption)
              have q135 : x5_1 < (l0.length : Int) := of_decide_eq_true (by first | (with_reducible assumption) | assumption)
              obtain ⟨ad135, A135_1, c135_1, e135, hx135_0, hx135_1, hl135_1, hi135_1⟩ := at_T138 HR0.out x5_1 p135 q135
              cases e135
              have HR135_1 := Aside0.mk hi135_1
              have HC135_1 := Aside0.mk hl135_1
              clear hi135_1 hl135_1
              replace p135 := eq_true p135
              replace q135 := eq_true q135
              have p136 : 0 ≤ (x5_1 : Int) := of_decide_eq_true (by first | (with_reducible assumption) | assumption)
              have q136 : x5_1 < (l0.length : Int) := of_decide_eq_true (by first | (with_reducible assumption) | assumption)
              obtain ⟨ad136, A136_1, c136_1, e136, hx136_0, hx136_1, hl136_1, hi136_1⟩ := at_T138 HR0.out x5_1 p136 q136
              obtain rfl : ad135 = ad136 := (by injection e136)
              have HR136_1 := Aside0.mk hi136_1
              have HC136_1 := Aside0.mk hl136_1
              clear hi136_1 hl136_1
              replace p136 := eq_true p136
              replace q136 := eq_true q136
              have ea_ := Option.some.inj (hx135_1.symm.trans hx136_1)
              injection ea_ with ea_ en_ ec_
              subst ea_
              subst ec_
              clear en_
              go_wp2_with (first | ((with_reducible refine gate_callee (f := 30) rfl ?_); refine goesL_ (some 29) rfl rfl Try.func30 (by kernel_rfl) rfl #[.slice A135_1 ((rd_T138 l0 x5_1).f1).length c135_1, .int .i64 (wrap64 (x1_1 + 1))] rfl (by (try simp only [List.map_toArray, List.map_cons, List.map_nil]); first | done | rfl | (simp only [List.length_drop, List.length_take]; rfl)) ?_; (with_reducible refine (laws_heldIntS.calls k1 _ _ ((rd_T138 l0 x5_1).f1) (wrap64 (x1_1 + 1)) t137 _ ?side1 ?side2 A6.out).mono ?_); (case side1 => repeat (first | exact HR136_1.out | (with_reducible refine Kd.C_alloc ?_ _) | (with_reducible refine Kd.C_drewN ?_ _) | (with_reducible refine Kd.C_drew ?_))); (case side2 => exact HC136_1.out); rintro e w' ⟨rfl, ⟨nd, rfl⟩⟩; refine ⟨_, rfl, ?_⟩))
              go_roundg k1
              case measure => have := HK1.out; omega
              case rel => exact ⟨(t137), (wrap64 (x5_1 + 1)), (by first | rfl | (simp; done) | (simp [*]; done)), (by first | rfl | (simp; done) | (simp [*]; done)), H', ⟨by have := HK1.out; omega⟩, by repeat (first | exact Drawn0.refl _ | apply Drawn0.step)⟩
        · rw [if_neg c4] at H
          exact absurd H (by simp)
      · rw [if_neg c3] at H
        have c3b0 : decide (x5_1 < (l0.length : Int)) = false := decide_eq_false c3
        clear c3
        obtain rfl := Option.some.inj H
        go_wp2
        go_ret
        exact ⟨by first | rfl | (simp; done) | (simp [*]; done), by repeat (first | exact Drawn0.refl _ | apply Drawn0.step)⟩

end Go.Proofs.Ytijbejiajaiciaa.PC

/- Functions of the translation as plain Lean functions, and for each that its call comes to just what its Lean function answers; its conditions stand in each theorem. Written by a program of this session. -/
namespace Go.Proofs.Ytijbejiajaiciaa.PC
open Go.RowKit Go.Proofs.YtijbejiajaiciaaW.PrintWords Go.Proofs.YtijbejiajaiciaaW.PrintLast Go.Proofs.YtijbejiajaiciaaW.PrintMore
attribute [local go_sem] max2_int min2_int max_two min_two max_three min_three max_four min_four   -- for this text's walks alone
set_option linter.unusedVariables false
set_option linter.unusedSimpArgs false

/-! ### laws_heldArena: function 58 -/
def laws_heldArena.f (k : Nat) (l0_0 : List (S138)) (a1 : Int) : Option (Int) := (laws_heldKnotS.f k l0_0 a1).bind fun t139 => (if t139 < 0 then (some (-1)) else (some t139))
theorem laws_heldArena.mono : ∀ a0 a1 k, LeO (laws_heldArena.f k a0 a1) (laws_heldArena.f (k + 1) a0 a1) := by
  intro a0 a1 k
  unfold laws_heldArena.f
  repeat' first
      | (with_reducible exact laws_heldKnotS.mono _ _ _)
      | (with_reducible exact LeO.refl _)
      | (with_reducible exact LeO.none _)
      | (with_reducible refine LeO.ite ?_ ?_)
      | (with_reducible refine LeO.bind ?_ (fun _ => ?_))
      | exact laws_heldKnotS.mono _ _ _
      | exact LeO.none _
      | refine LeO.ite ?_ ?_
      | refine LeO.bind ?_ (fun _ => ?_)
set_option maxHeartbeats 8000000 in
set_option maxRecDepth 100000 in
theorem laws_heldArena.calls (k : Nat) (A0_0 : Option Addr) (c0_0 : Nat) (l0_0 : List (S138)) (a1 : Int) (r : Int) (w : World) (hr0_0 : Kd.C k138 w A0_0 l0_0.length l0_0) (hc0_0 : l0_0.length ≤ c0_0) (h : laws_heldArena.f k l0_0 a1 = some r) :
    Calls Try.prog 58 #[.agg #[.slice A0_0 l0_0.length c0_0], .int .i64 a1] w fun e w' => e = .returned (.int .i64 r) ∧ Below w.heap.size w w' := by
  have hu25 := Try.underlying25
  have HR0_0 := Aside0.mk hr0_0
  have HC0_0 := Aside0.mk hc0_0
  clear hr0_0 hc0_0
  have HB := Aside0.mk (Below.refl w.heap.size w)
  have H : ((laws_heldKnotS.f k l0_0 a1).bind fun t139 => (if t139 < 0 then (some (-1)) else (some t139))) = some r := h
  clear h
  replace H := Option.bind_eq_some_iff.mp H
  obtain ⟨t139, A30, H⟩ := H
  replace H : (if t139 < 0 then (some (-1)) else (some t139)) = some r := H
  have A3 := Aside0.mk A30
  clear A30
  by_cases c4 : t139 < 0
  · rw [if_pos c4] at H
    have c4b0 : decide (t139 < 0) = true := decide_eq_true c4
    clear c4
    obtain rfl := Option.some.inj H
    go_enter Try.func58, Try.ntmps58
    go_wp2_with (first | ((with_reducible refine gate_dst (N := 2) rfl ?_); refine box_event ?hg (N := 2) ?hd (cs := #[.slice A0_0 l0_0.length c0_0]) (t := 25) ?hr ?_; (case hd => rfl); (case hg => rfl); (case hr => first | (go_simp; done) | (go_simp; rfl)); intro gb138 hg w5 hbox hb; have n0_ := Aside0.mk (below_step (by repeat (first | (with_reducible first | exact HB.out | apply below_alloc | apply pw_below_drewN | apply below_drew1) | exact HB.out)) hb); have n1_ := Aside0.mk (hbox); have n2_ := Aside0.mk ((by rw [hg]; exact (below_size (by repeat (first | (with_reducible first | exact HB.out | apply below_alloc | apply pw_below_drewN | apply below_drew1) | exact HB.out))) : w.heap.size ≤ gb138)); have n3_ := Aside0.mk ((by rw [hg]; exact (below_size (by repeat (first | (with_reducible first | exact HB.out | apply below_alloc | apply pw_below_drewN | apply below_drew1) | exact HB.out))) : w.heap.size ≤ gb138)); clear HB; have HB := n0_; have BK138 := n1_; have GW138 := n2_; have GE138 := n3_; clear n0_ n1_ n2_ n3_; clear hb hbox hg; have hcz6_0 : w5.cell? ⟨gb138, 0, none⟩ = some (.slice A0_0 l0_0.length c0_0) := (blk_cell BK138.out 0).trans rfl; have hfz6_0 := blk_frozen BK138.out 0) | ((with_reducible refine gate_callee (f := 87) rfl ?_); refine goesL_ (some 8) rfl rfl Try.func87 (by kernel_rfl) rfl #[.slice A0_0 l0_0.length c0_0, .int .i64 a1] rfl (by (try simp only [List.map_toArray, List.map_cons, List.map_nil]); first | done | rfl | (simp only [List.length_drop, List.length_take]; rfl)) ?_; (with_reducible refine (laws_heldKnotS.calls k _ _ l0_0 a1 t139 _ ?side1 ?side2 A3.out).mono ?_); (case side1 => repeat (first | exact (Kd.C_below HR0_0.out HB.out) | (with_reducible refine Kd.C_alloc ?_ _) | (with_reducible refine Kd.C_drewN ?_ _) | (with_reducible refine Kd.C_drew ?_))); (case side2 => exact HC0_0.out); rintro e w' ⟨rfl, ⟨nd, rfl⟩⟩; refine ⟨_, rfl, ?_⟩))
    go_ret
    exact ⟨by first | rfl | (simp [errW_none, errW_some] <;> rfl) | (simp [*, errW_none, errW_some] <;> rfl), by repeat (first | (with_reducible first | exact HB.out | apply below_alloc | apply pw_below_drewN | apply below_drew1 | refine below_set ?_ GE138.out) | exact HB.out)⟩
  · rw [if_neg c4] at H
    have c4b0 : decide (t139 < 0) = false := decide_eq_false c4
    clear c4
    obtain rfl := Option.some.inj H
    go_enter Try.func58, Try.ntmps58
    go_wp2_with (first | ((with_reducible refine gate_dst (N := 2) rfl ?_); refine box_event ?hg (N := 2) ?hd (cs := #[.slice A0_0 l0_0.length c0_0]) (t := 25) ?hr ?_; (case hd => rfl); (case hg => rfl); (case hr => first | (go_simp; done) | (go_simp; rfl)); intro gb138 hg w7 hbox hb; have n0_ := Aside0.mk (below_step (by repeat (first | (with_reducible first | exact HB.out | apply below_alloc | apply pw_below_drewN | apply below_drew1) | exact HB.out)) hb); have n1_ := Aside0.mk (hbox); have n2_ := Aside0.mk ((by rw [hg]; exact (below_size (by repeat (first | (with_reducible first | exact HB.out | apply below_alloc | apply pw_below_drewN | apply below_drew1) | exact HB.out))) : w.heap.size ≤ gb138)); have n3_ := Aside0.mk ((by rw [hg]; exact (below_size (by repeat (first | (with_reducible first | exact HB.out | apply below_alloc | apply pw_below_drewN | apply below_drew1) | exact HB.out))) : w.heap.size ≤ gb138)); clear HB; have HB := n0_; have BK138 := n1_; have GW138 := n2_; have GE138 := n3_; clear n0_ n1_ n2_ n3_; clear hb hbox hg; have hcz8_0 : w7.cell? ⟨gb138, 0, none⟩ = some (.slice A0_0 l0_0.length c0_0) := (blk_cell BK138.out 0).trans rfl; have hfz8_0 := blk_frozen BK138.out 0) | ((with_reducible refine gate_callee (f := 87) rfl ?_); refine goesL_ (some 8) rfl rfl Try.func87 (by kernel_rfl) rfl #[.slice A0_0 l0_0.length c0_0, .int .i64 a1] rfl (by (try simp only [List.map_toArray, List.map_cons, List.map_nil]); first | done | rfl | (simp only [List.length_drop, List.length_take]; rfl)) ?_; (with_reducible refine (laws_heldKnotS.calls k _ _ l0_0 a1 t139 _ ?side1 ?side2 A3.out).mono ?_); (case side1 => repeat (first | exact (Kd.C_below HR0_0.out HB.out) | (with_reducible refine Kd.C_alloc ?_ _) | (with_reducible refine Kd.C_drewN ?_ _) | (with_reducible refine Kd.C_drew ?_))); (case side2 => exact HC0_0.out); rintro e w' ⟨rfl, ⟨nd, rfl⟩⟩; refine ⟨_, rfl, ?_⟩))
    go_ret
    exact ⟨by first | rfl | (simp [errW_none, errW_some] <;> rfl) | (simp [*, errW_none, errW_some] <;> rfl), by repeat (first | (with_reducible first | exact HB.out | apply below_alloc | apply pw_below_drewN | apply below_drew1 | refine below_set ?_ GE138.out) | exact HB.out)⟩

end Go.Proofs.Ytijbejiajaiciaa.PC

/- Marks of an arena. -/
namespace Go.Proofs.Ytijbejiajaiciaa.Pu
set_option linter.unusedVariables false
set_option linter.unusedSimpArgs false
open Go.RowKit Go.Proofs.Ytijbejiajaiciaa.PC Go.Proofs.YtijbejiajaiciaaW.PrintWords

theorem mark_knots (l : List S138) (a : Int) (hn : l.length ≤ 1048576) (hk : ∀ x ∈ l, x.f1.length ≤ 1048576) (ha : 0 ≤ a) (hM : a ≤ 1099511627776) :
    ∃ a' l', l'.length = l.length ∧ Ev (fun k => laws_markKnotS.f k l a) (a', l') ∧ Ev (fun k => laws_heldKnotS.f k l' a) a' ∧ a ≤ a' ∧ a' ≤ a + l.length * 1048577 := by
  obtain ⟨a', l', h1, _, h2, h3, h4, h5⟩ := ev_mark z138 (L := fun k xs a i => laws_markKnotS.l0 k xs a i) (Hd := fun k xs a i => laws_heldKnotS.l0 k xs a i)
    (fun k x a => (laws_markIntS.f k x.f1 (wrap64 (a + 1))).bind fun b => some (b.1, (⟨Int.tmod a 3 == 0, b.2⟩ : S138))) (fun k x a => if (x.f0 != (Int.tmod a 3 == 0)) = true then some (-1) else laws_heldIntS.f k x.f1 (wrap64 (a + 1))) 1048577 (fun x => x.f1.length ≤ 1048576)
    (fun k xs a i hi _ _ => by
      have e1 : rd_T138 (xs.set i (⟨Int.tmod a 3 == 0, (rd_T138 xs (i : Int)).f1⟩ : S138)) (i : Int) = ⟨Int.tmod a 3 == 0, (rd_T138 xs (i : Int)).f1⟩ := getD_set_self hi
      simp only [laws_markKnotS.l0]
      rw [if_pos (by omega), if_pos (by omega)]
      simp only [Option.bind_some, Int.toNat_natCast, e1, List.set_set, Option.bind_assoc]
      rfl)
    (fun k xs a i hi => by
      simp only [laws_markKnotS.l0]
      rw [if_neg (by omega)])
    (fun k xs a i hi h0 h1 => by
      simp only [laws_heldKnotS.l0]
      rw [if_pos (by omega), if_pos (by omega)]
      show (if ((xs.getD i z138).f0 != (Int.tmod a 3 == 0)) = true then some (-1) else (laws_heldIntS.f k (xs.getD i z138).f1 (wrap64 (a + 1))).bind _) = _
      by_cases h : ((xs.getD i z138).f0 != (Int.tmod a 3 == 0)) = true
      · simp only [if_pos h]; rfl
      · simp only [if_neg h])
    (fun k xs a i hi => by
      simp only [laws_heldKnotS.l0]
      rw [if_neg (by omega)])
    (by omega)
    (fun x a hx h0 h1 => by
      obtain ⟨a1, l1, g1, g2, g3, g4, g5⟩ := mark_int x.f1 (a + 1) (by omega) (by omega) (by omega)
      refine ⟨a1, ⟨Int.tmod a 3 == 0, l1⟩, ?_, ?_, by omega, by omega⟩
      · simp only [w64 (x := a + 1) (by omega) (by omega)]
        exact ev_bind g2 (Ev.now _)
      · simp only [w64 (x := a + 1) (by omega) (by omega), bne_self_eq_false]
        exact g3)
    l.length 0 l a (by omega) (by omega) (fun j _ hj => hk _ (by rw [List.getD_eq_getElem?_getD, List.getElem?_eq_getElem hj]; exact List.getElem_mem hj)) ha (by omega)
  exact ⟨a', l', h1, h2, h3, h4, h5⟩
theorem mark_arena (l : List S138) (a : Int) (hn : l.length ≤ 1048576) (hk : ∀ x ∈ l, x.f1.length ≤ 1048576) (ha : 0 ≤ a) (hM : a ≤ 1099511627776) :
    ∃ a' l', l'.length = l.length ∧ Ev (fun k => laws_markArena.f k l a) (a', l') ∧ Ev (fun k => laws_heldArena.f k l' a) a' ∧ a ≤ a' ∧ a' ≤ a + l.length * 1048577 := by
  obtain ⟨a', l', h1, h2, h3, h4, h5⟩ := mark_knots l a hn hk ha hM
  refine ⟨a', l', h1, ?_, ?_, h4, h5⟩
  · unfold laws_markArena.f; exact ev_bind h2 (Ev.now _)
  · unfold laws_heldArena.f; exact ev_bind h3 (by simp only [if_neg (show ¬ a' < 0 by omega)]; exact Ev.now _)
end Go.Proofs.Ytijbejiajaiciaa.Pu

/- Functions of the translation as plain Lean functions, and for each that its call comes to just what its Lean function answers; its conditions stand in each theorem. Written by a program of this session. -/
namespace Go.Proofs.Ytijbejiajaiciaa.PC
open Go.RowKit Go.Proofs.YtijbejiajaiciaaW.PrintWords Go.Proofs.YtijbejiajaiciaaW.PrintLast Go.Proofs.YtijbejiajaiciaaW.PrintMore
attribute [local go_sem] max2_int min2_int max_two min_two max_three min_three max_four min_four   -- for this text's walks alone
set_option linter.unusedVariables false
set_option linter.unusedSimpArgs false

/-! ### laws_heldVolS: function 57 -/
def laws_heldVolS.l0 : Nat → List (S124) → Int → Int → Option (Int)
  | 0, _, _, _ => none
  | k + 1, x0, x1, x5 => if x5 < (x0.length : Int) then (if 0 ≤ x5 then (if ((rd_T124 x0 x5).f0) = x1 then (if ((rd_T124 x0 x5).f1) = (wrap64 (x1 + 1)) then (laws_heldVolS.l0 k x0 (wrap64 ((wrap64 (x1 + 1)) + 1)) (wrap64 (x5 + 1))) else (some (-1))) else (some (-1))) else (none)) else (some x1)
def laws_heldVolS.f (k : Nat) (l0 : List (S124)) (a1 : Int) : Option (Int) := laws_heldVolS.l0 k l0 a1 0
theorem laws_heldVolS.mono_l : ∀ k, (∀ y0 y1 y2, LeO (laws_heldVolS.l0 k y0 y1 y2) (laws_heldVolS.l0 (k + 1) y0 y1 y2))
  | 0 => fun _ _ _ r h => by simp [laws_heldVolS.l0] at h
  | k + 1 => by
    have ih0 := laws_heldVolS.mono_l k
    · intro y0 y1 y2
      unfold laws_heldVolS.l0
      repeat' first
      | (with_reducible exact ih0 _ _ _)
      | (with_reducible exact LeO.refl _)
      | (with_reducible exact LeO.none _)
      | (with_reducible refine LeO.ite ?_ ?_)
      | (with_reducible refine LeO.bind ?_ (fun _ => ?_))
      | exact ih0 _ _ _
      | exact LeO.none _
      | refine LeO.ite ?_ ?_
      | refine LeO.bind ?_ (fun _ => ?_)
theorem laws_heldVolS.mono : ∀ a0 a1 k, LeO (laws_heldVolS.f k a0 a1) (laws_heldVolS.f (k + 1) a0 a1) := by
  intro a0 a1 k
  have ih0 := laws_heldVolS.mono_l k
  unfold laws_heldVolS.f
  repeat' first
      | (with_reducible exact ih0 _ _ _)
      | (with_reducible exact LeO.refl _)
      | (with_reducible exact LeO.none _)
      | (with_reducible refine LeO.ite ?_ ?_)
      | (with_reducible refine LeO.bind ?_ (fun _ => ?_))
      | exact ih0 _ _ _
      | exact LeO.none _
      | refine LeO.ite ?_ ?_
      | refine LeO.bind ?_ (fun _ => ?_)
set_option maxHeartbeats 8000000 in
set_option maxRecDepth 100000 in
theorem laws_heldVolS.calls (k : Nat) (A0 : Option Addr) (c0 : Nat) (l0 : List (S124)) (a1 : Int) (r : Int) (w : World) (hr0 : Kd.C k124 w A0 l0.length l0) (hc0 : l0.length ≤ c0) (h : laws_heldVolS.f k l0 a1 = some r) :
    Calls Try.prog 57 #[.slice A0 l0.length c0, .int .i64 a1] w fun e w' => e = .returned (.int .i64 r) ∧ Drawn0 w w' := by
  have HR0 := Aside0.mk hr0
  have HC0 := Aside0.mk hc0
  clear hr0 hc0
  have H : (laws_heldVolS.l0 k l0 a1 0) = some r := h
  clear h
  have H' := Aside0.mk H
  clear H
  go_enter Try.func57, Try.ntmps57
  go_wp2
  go_loopg [1, 5] k (fun kq v1 v5 w' => ∃ (x1_1 : Int) (x5_1 : Int), v1 = .int .i64 x1_1 ∧ v5 = .int .i64 x5_1 ∧ Aside0 (laws_heldVolS.l0 kq l0 x1_1 x5_1 = some r) ∧ Aside0 (kq ≤ k) ∧ Drawn0 w w')
  case atStart => exact ⟨(a1), (0), (by first | rfl | (simp; done) | (simp [*]; done)), (by first | rfl | (simp; done) | (simp [*]; done)), H', ⟨Nat.le_refl _⟩, by repeat (first | exact Drawn0.refl _ | apply Drawn0.step)⟩
  case round =>
    clear H'
    try clear p2
    obtain ⟨x1_1, x5_1, rfl, rfl, HA, HK1, ⟨m1, rfl⟩⟩ := hrel
    cases gk with
    | zero => exact absurd HA.out (by simp [laws_heldVolS.l0])
    | succ k1 =>
      have H := HA.out
      clear HA
      simp only [laws_heldVolS.l0] at H
      by_cases c3 : x5_1 < (l0.length : Int)
      · rw [if_pos c3] at H
        have c3b0 : decide (x5_1 < (l0.length : Int)) = true := decide_eq_true c3
        clear c3
        by_cases c4 : 0 ≤ x5_1
        · rw [if_pos c4] at H
          have c4b0 : decide (0 ≤ x5_1) = true := decide_eq_true c4
          clear c4
          by_cases c5 : ((rd_T124 l0 x5_1).f0) = x1_1
          · rw [if_pos c5] at H
            have c5b0 : (((rd_T124 l0 x5_1).f0) == x1_1) = true := beq_iff_eq.mpr c5
            have c5b1 : (((rd_T124 l0 x5_1).f0) != x1_1) = false := bne_eq_false_iff_eq.mpr c5
            clear c5
            by_cases c6 : ((rd_T124 l0 x5_1).f1) = (wrap64 (x1_1 + 1))
            · rw [if_pos c6] at H
              have c6b0 : (((rd_T124 l0 x5_1).f1) == (wrap64 (x1_1 + 1))) = true := beq_iff_eq.mpr c6
              have c6b1 : (((rd_T124 l0 x5_1).f1) != (wrap64 (x1_1 + 1))) = false := bne_eq_false_iff_eq.mpr c6
              clear c6
              have H' := Aside0.mk H
              clear H
              have p132 : 0 ≤ (x5_1 : Int) := of_decide_eq_true (by first | (with_reducible assumption) | assumption)
              have q132 : x5_1 < (l0.length : Int) := of_decide_eq_true (by first | (with_reducible assumption) | assumption)
              obtain ⟨ad132, e132, hx132_0, hx132_1⟩ := at_T124 HR0.out x5_1 p132 q132
              cases e132
              replace p132 := eq_true p132
              replace q132 := eq_true q132
              have p133 : 0 ≤ (x5_1 : Int) := of_decide_eq_true (by first | (with_reducible assumption) | assumption)
              have q133 : x5_1 < (l0.length : Int) := of_decide_eq_true (by first | (with_reducible assumption) | assumption)
              obtain ⟨ad133, e133, hx133_0, hx133_1⟩ := at_T124 HR0.out x5_1 p133 q133
              obtain rfl : ad132 = ad133 := (by injection e133)
              replace p133 := eq_true p133
              replace q133 := eq_true q133
              go_wp2
              go_roundg k1
              case measure => have := HK1.out; omega
              case rel => exact ⟨(wrap64 ((wrap64 (x1_1 + 1)) + 1)), (wrap64 (x5_1 + 1)), (by first | rfl | (simp; done) | (simp [*]; done)), (by first | rfl | (simp; done) | (simp [*]; done)), H', ⟨by have := HK1.out; omega⟩, by repeat (first | exact Drawn0.refl _ | apply Drawn0.step)⟩
            · rw [if_neg c6] at H
              have c6b0 : (((rd_T124 l0 x5_1).f1) == (wrap64 (x1_1 + 1))) = false := beq_eq_false_iff_ne.mpr c6
              have c6b1 : (((rd_T124 l0 x5_1).f1) != (wrap64 (x1_1 + 1))) = true := bne_iff_ne.mpr c6
              obtain rfl := Option.some.inj H
              have p132 : 0 ≤ (x5_1 : Int) := of_decide_eq_true (by first | (with_reducible assumption) | assumption)
              have q132 : x5_1 < (l0.length : Int) := of_decide_eq_true (by first | (with_reducible assumption) | assumption)
              obtain ⟨ad132, e132, hx132_0, hx132_1⟩ := at_T124 HR0.out x5_1 p132 q132
              cases e132
              replace p132 := eq_true p132
              replace q132 := eq_true q132
              have p133 : 0 ≤ (x5_1 : Int) := of_decide_eq_true (by first | (with_reducible assumption) | assumption)
              have q133 : x5_1 < (l0.length : Int) := of_decide_eq_true (by first | (with_reducible assumption) | assumption)
              obtain ⟨ad133, e133, hx133_0, hx133_1⟩ := at_T124 HR0.out x5_1 p133 q133
              obtain rfl : ad132 = ad133 := (by injection e133)
              replace p133 := eq_true p133
              replace q133 := eq_true q133
              go_wp2
              go_ret
              exact ⟨by first | rfl | (simp; done) | (simp [*]; done), by repeat (first | exact Drawn0.refl _ | apply Drawn0.step)⟩
          · rw [if_neg c5] at H
            have c5b0 : (((rd_T124 l0 x5_1).f0) == x1_1) = false := beq_eq_false_iff_ne.mpr c5
            have c5b1 : (((rd_T124 l0 x5_1).f0) != x1_1) = true := bne_iff_ne.mpr c5
            obtain rfl := Option.some.inj H
            have p132 : 0 ≤ (x5_1 : Int) := of_decide_eq_true (by first | (with_reducible assumption) | assumption)
            have q132 : x5_1 < (l0.length : Int) := of_decide_eq_true (by first | (with_reducible assumption) | assumption)
            obtain ⟨ad132, e132, hx132_0, hx132_1⟩ := at_T124 HR0.out x5_1 p132 q132
            cases e132
            replace p132 := eq_true p132
            replace q132 := eq_true q132
            go_wp2
            go_ret
            exact ⟨by first | rfl | (simp; done) | (simp [*]; done), by repeat (first | exact Drawn0.refl _ | apply Drawn0.step)⟩
        · rw [if_neg c4] at H
          exact absurd H (by simp)
      · rw [if_neg c3] at H
        have c3b0 : decide (x5_1 < (l0.length : Int)) = false := decide_eq_false c3
        clear c3
        obtain rfl := Option.some.inj H
        go_wp2
        go_ret
        exact ⟨by first | rfl | (simp; done) | (simp [*]; done), by repeat (first | exact Drawn0.refl _ | apply Drawn0.step)⟩

end Go.Proofs.Ytijbejiajaiciaa.PC

/- Functions of the translation as plain Lean functions, and for each that its call comes to just what its Lean function answers; its conditions stand in each theorem. Written by a program of this session. -/
namespace Go.Proofs.Ytijbejiajaiciaa.PC
open Go.RowKit Go.Proofs.YtijbejiajaiciaaW.PrintWords Go.Proofs.YtijbejiajaiciaaW.PrintLast Go.Proofs.YtijbejiajaiciaaW.PrintMore
attribute [local go_sem] max2_int min2_int max_two min_two max_three min_three max_four min_four   -- for this text's walks alone
set_option linter.unusedVariables false
set_option linter.unusedSimpArgs false

/-! ### laws_heldStore: function 14 -/
def laws_heldStore.f (k : Nat) (l0_0 : List (S124)) (l0_1 : List (S138)) (a0_2 : Int) (a1 : Int) : Option (Int) := (laws_heldVolS.f k l0_0 a1).bind fun t141 => (if t141 < 0 then (some (-1)) else ((laws_heldArena.f k l0_1 t141).bind fun t142 => (if t142 < 0 then (some (-1)) else (some t142))))
theorem laws_heldStore.mono : ∀ a0 a1 a2 a3 k, LeO (laws_heldStore.f k a0 a1 a2 a3) (laws_heldStore.f (k + 1) a0 a1 a2 a3) := by
  intro a0 a1 a2 a3 k
  unfold laws_heldStore.f
  repeat' first
      | (with_reducible exact laws_heldArena.mono _ _ _)
      | (with_reducible exact laws_heldVolS.mono _ _ _)
      | (with_reducible exact LeO.refl _)
      | (with_reducible exact LeO.none _)
      | (with_reducible refine LeO.ite ?_ ?_)
      | (with_reducible refine LeO.bind ?_ (fun _ => ?_))
      | exact laws_heldArena.mono _ _ _
      | exact laws_heldVolS.mono _ _ _
      | exact LeO.none _
      | refine LeO.ite ?_ ?_
      | refine LeO.bind ?_ (fun _ => ?_)
set_option maxHeartbeats 8000000 in
set_option maxRecDepth 100000 in
theorem laws_heldStore.calls (k : Nat) (A0_0 : Option Addr) (c0_0 : Nat) (l0_0 : List (S124)) (A0_1 : Option Addr) (c0_1 : Nat) (l0_1 : List (S138)) (a0_2 : Int) (a1 : Int) (r : Int) (w : World) (hr0_0 : Kd.C k124 w A0_0 l0_0.length l0_0) (hc0_0 : l0_0.length ≤ c0_0) (hr0_1 : Kd.C k138 w A0_1 l0_1.length l0_1) (hc0_1 : l0_1.length ≤ c0_1) (h : laws_heldStore.f k l0_0 l0_1 a0_2 a1 = some r) :
    Calls Try.prog 14 #[.agg #[.slice A0_0 l0_0.length c0_0, .slice A0_1 l0_1.length c0_1, .int .i64 a0_2], .int .i64 a1] w fun e w' => e = .returned (.int .i64 r) ∧ Below w.heap.size w w' := by
  have hu27 := Try.underlying27
  have hu25 := Try.underlying25
  have HR0_0 := Aside0.mk hr0_0
  have HC0_0 := Aside0.mk hc0_0
  clear hr0_0 hc0_0
  have HR0_1 := Aside0.mk hr0_1
  have HC0_1 := Aside0.mk hc0_1
  clear hr0_1 hc0_1
  have HB := Aside0.mk (Below.refl w.heap.size w)
  have H : ((laws_heldVolS.f k l0_0 a1).bind fun t141 => (if t141 < 0 then (some (-1)) else ((laws_heldArena.f k l0_1 t141).bind fun t142 => (if t142 < 0 then (some (-1)) else (some t142))))) = some r := h
  clear h
  replace H := Option.bind_eq_some_iff.mp H
  obtain ⟨t141, A30, H⟩ := H
  replace H : (if t141 < 0 then (some (-1)) else ((laws_heldArena.f k l0_1 t141).bind fun t142 => (if t142 < 0 then (some (-1)) else (some t142)))) = some r := H
  have A3 := Aside0.mk A30
  clear A30
  by_cases c4 : t141 < 0
  · rw [if_pos c4] at H
    have c4b0 : decide (t141 < 0) = true := decide_eq_true c4
    clear c4
    obtain rfl := Option.some.inj H
    go_enter Try.func14, Try.ntmps14
    go_wp2_with (first | ((with_reducible refine gate_dst (N := 2) rfl ?_); refine box_event ?hg (N := 2) ?hd (cs := #[.slice A0_0 l0_0.length c0_0, .slice A0_1 l0_1.length c0_1, .int .i64 a0_2]) (t := 27) ?hr ?_; (case hd => rfl); (case hg => rfl); (case hr => first | (go_simp; done) | (go_simp; rfl)); intro gb140 hg w5 hbox hb; have n0_ := Aside0.mk (below_step (by repeat (first | (with_reducible first | exact HB.out | apply below_alloc | apply pw_below_drewN | apply below_drew1) | exact HB.out)) hb); have n1_ := Aside0.mk (hbox); have n2_ := Aside0.mk ((by rw [hg]; exact (below_size (by repeat (first | (with_reducible first | exact HB.out | apply below_alloc | apply pw_below_drewN | apply below_drew1) | exact HB.out))) : w.heap.size ≤ gb140)); have n3_ := Aside0.mk ((by rw [hg]; exact (below_size (by repeat (first | (with_reducible first | exact HB.out | apply below_alloc | apply pw_below_drewN | apply below_drew1) | exact HB.out))) : w.heap.size ≤ gb140)); clear HB; have HB := n0_; have BK140 := n1_; have GW140 := n2_; have GE140 := n3_; clear n0_ n1_ n2_ n3_; clear hb hbox hg; have hcz6_0 : w5.cell? ⟨gb140, 0, none⟩ = some (.slice A0_0 l0_0.length c0_0) := (blk_cell BK140.out 0).trans rfl; have hcz6_1 : w5.cell? ⟨gb140, 1, none⟩ = some (.slice A0_1 l0_1.length c0_1) := (blk_cell BK140.out 1).trans rfl; have hcz6_2 : w5.cell? ⟨gb140, 2, none⟩ = some (.int .i64 a0_2) := (blk_cell BK140.out 2).trans rfl; have hfz6_0 := blk_frozen BK140.out 0; have hfz6_1 := blk_frozen BK140.out 1; have hfz6_2 := blk_frozen BK140.out 2) | ((with_reducible refine gate_callee (f := 57) rfl ?_); refine goesL_ (some 8) rfl rfl Try.func57 (by kernel_rfl) rfl #[.slice A0_0 l0_0.length c0_0, .int .i64 a1] rfl (by (try simp only [List.map_toArray, List.map_cons, List.map_nil]); first | done | rfl | (simp only [List.length_drop, List.length_take]; rfl)) ?_; (with_reducible refine (laws_heldVolS.calls k _ _ l0_0 a1 t141 _ ?side1 ?side2 A3.out).mono ?_); (case side1 => repeat (first | exact (Kd.C_below HR0_0.out HB.out) | (with_reducible refine Kd.C_alloc ?_ _) | (with_reducible refine Kd.C_drewN ?_ _) | (with_reducible refine Kd.C_drew ?_))); (case side2 => exact HC0_0.out); rintro e w' ⟨rfl, ⟨nd, rfl⟩⟩; refine ⟨_, rfl, ?_⟩))
    go_ret
    exact ⟨by first | rfl | (simp [errW_none, errW_some] <;> rfl) | (simp [*, errW_none, errW_some] <;> rfl), by repeat (first | (with_reducible first | exact HB.out | apply below_alloc | apply pw_below_drewN | apply below_drew1 | refine below_set ?_ GE140.out) | exact HB.out)⟩
  · rw [if_neg c4] at H
    have c4b0 : decide (t141 < 0) = false := decide_eq_false c4
    clear c4
    replace H := Option.bind_eq_some_iff.mp H
    obtain ⟨t142, A70, H⟩ := H
    replace H : (if t142 < 0 then (some (-1)) else (some t142)) = some r := H
    have A7 := Aside0.mk A70
    clear A70
    by_cases c8 : t142 < 0
    · rw [if_pos c8] at H
      have c8b0 : decide (t142 < 0) = true := decide_eq_true c8
      clear c8
      obtain rfl := Option.some.inj H
      go_enter Try.func14, Try.ntmps14
      go_wp2_with (first | ((with_reducible refine gate_dst (N := 2) rfl ?_); refine box_event ?hg (N := 2) ?hd (cs := #[.slice A0_0 l0_0.length c0_0, .slice A0_1 l0_1.length c0_1, .int .i64 a0_2]) (t := 27) ?hr ?_; (case hd => rfl); (case hg => rfl); (case hr => first | (go_simp; done) | (go_simp; rfl)); intro gb140 hg w9 hbox hb; have n0_ := Aside0.mk (below_step (by repeat (first | (with_reducible first | exact HB.out | apply below_alloc | apply pw_below_drewN | apply below_drew1) | exact HB.out)) hb); have n1_ := Aside0.mk (hbox); have n2_ := Aside0.mk ((by rw [hg]; exact (below_size (by repeat (first | (with_reducible first | exact HB.out | apply below_alloc | apply pw_below_drewN | apply below_drew1) | exact HB.out))) : w.heap.size ≤ gb140)); have n3_ := Aside0.mk ((by rw [hg]; exact (below_size (by repeat (first | (with_reducible first | exact HB.out | apply below_alloc | apply pw_below_drewN | apply below_drew1) | exact HB.out))) : w.heap.size ≤ gb140)); clear HB; have HB := n0_; have BK140 := n1_; have GW140 := n2_; have GE140 := n3_; clear n0_ n1_ n2_ n3_; clear hb hbox hg; have hcz10_0 : w9.cell? ⟨gb140, 0, none⟩ = some (.slice A0_0 l0_0.length c0_0) := (blk_cell BK140.out 0).trans rfl; have hcz10_1 : w9.cell? ⟨gb140, 1, none⟩ = some (.slice A0_1 l0_1.length c0_1) := (blk_cell BK140.out 1).trans rfl; have hcz10_2 : w9.cell? ⟨gb140, 2, none⟩ = some (.int .i64 a0_2) := (blk_cell BK140.out 2).trans rfl; have hfz10_0 := blk_frozen BK140.out 0; have hfz10_1 := blk_frozen BK140.out 1; have hfz10_2 := blk_frozen BK140.out 2) | ((with_reducible refine gate_callee (f := 57) rfl ?_); refine goesL_ (some 8) rfl rfl Try.func57 (by kernel_rfl) rfl #[.slice A0_0 l0_0.length c0_0, .int .i64 a1] rfl (by (try simp only [List.map_toArray, List.map_cons, List.map_nil]); first | done | rfl | (simp only [List.length_drop, List.length_take]; rfl)) ?_; (with_reducible refine (laws_heldVolS.calls k _ _ l0_0 a1 t141 _ ?side1 ?side2 A3.out).mono ?_); (case side1 => repeat (first | exact (Kd.C_below HR0_0.out HB.out) | (with_reducible refine Kd.C_alloc ?_ _) | (with_reducible refine Kd.C_drewN ?_ _) | (with_reducible refine Kd.C_drew ?_))); (case side2 => exact HC0_0.out); rintro e w' ⟨rfl, ⟨nd, rfl⟩⟩; refine ⟨_, rfl, ?_⟩) | ((with_reducible refine gate_callee (f := 58) rfl ?_); refine goesL_ (some 14) rfl rfl Try.func58 (by kernel_rfl) rfl #[.agg #[.slice A0_1 l0_1.length c0_1], .int .i64 t141] rfl (by (try simp only [List.map_toArray, List.map_cons, List.map_nil]); first | done | rfl | (simp only [List.length_drop, List.length_take]; rfl)) ?_; (with_reducible refine (laws_heldArena.calls k _ _ l0_1 t141 t142 _ ?side1 ?side2 A7.out).mono ?_); (case side1 => repeat (first | exact (Kd.C_below HR0_1.out (by repeat (first | (with_reducible first | exact HB.out | apply below_alloc | apply pw_below_drewN | apply below_drew1 | refine below_set ?_ GE140.out) | exact HB.out))) | (with_reducible refine Kd.C_alloc ?_ _) | (with_reducible refine Kd.C_drewN ?_ _) | (with_reducible refine Kd.C_drew ?_))); (case side2 => exact HC0_1.out); rintro e w11 ⟨rfl, hb⟩; refine ⟨_, rfl, ?_⟩; have n0_ := Aside0.mk (blk_below (g := gb140) (o := .cells #[.slice A0_0 l0_0.length c0_0, .slice A0_1 l0_1.length c0_1, .int .i64 a0_2] 27 (0, 0)) (by (with_reducible repeat (first | refine blk_drewN ?_ _ | refine blk_drew ?_ | refine blk_alloc ?_ _)); exact BK140.out) hb); have n1_ := Aside0.mk (below_step (by repeat (first | (with_reducible first | exact HB.out | apply below_alloc | apply pw_below_drewN | apply below_drew1 | refine below_set ?_ GE140.out) | exact HB.out)) hb); clear BK140; clear HB; have BK140 := n0_; have HB := n1_; clear n0_ n1_; (try clear hb); (try clear hb2); (try clear hk); (try clear hi)))
      go_ret
      exact ⟨by first | rfl | (simp [errW_none, errW_some] <;> rfl) | (simp [*, errW_none, errW_some] <;> rfl), by repeat (first | (with_reducible first | exact HB.out | apply below_alloc | apply pw_below_drewN | apply below_drew1 | refine below_set ?_ GE140.out) | exact HB.out)⟩
    · rw [if_neg c8] at H
      have c8b0 : decide (t142 < 0) = false := decide_eq_false c8
      clear c8
      obtain rfl := Option.some.inj H
      go_enter Try.func14, Try.ntmps14
      go_wp2_with (first | ((with_reducible refine gate_dst (N := 2) rfl ?_); refine box_event ?hg (N := 2) ?hd (cs := #[.slice A0_0 l0_0.length c0_0, .slice A0_1 l0_1.length c0_1, .int .i64 a0_2]) (t := 27) ?hr ?_; (case hd => rfl); (case hg => rfl); (case hr => first | (go_simp; done) | (go_simp; rfl)); intro gb140 hg w12 hbox hb; have n0_ := Aside0.mk (below_step (by repeat (first | (with_reducible first | exact HB.out | apply below_alloc | apply pw_below_drewN | apply below_drew1) | exact HB.out)) hb); have n1_ := Aside0.mk (hbox); have n2_ := Aside0.mk ((by rw [hg]; exact (below_size (by repeat (first | (with_reducible first | exact HB.out | apply below_alloc | apply pw_below_drewN | apply below_drew1) | exact HB.out))) : w.heap.size ≤ gb140)); have n3_ := Aside0.mk ((by rw [hg]; exact (below_size (by repeat (first | (with_reducible first | exact HB.out | apply below_alloc | apply pw_below_drewN | apply below_drew1) | exact HB.out))) : w.heap.size ≤ gb140)); clear HB; have HB := n0_; have BK140 := n1_; have GW140 := n2_; have GE140 := n3_; clear n0_ n1_ n2_ n3_; clear hb hbox hg; have hcz13_0 : w12.cell? ⟨gb140, 0, none⟩ = some (.slice A0_0 l0_0.length c0_0) := (blk_cell BK140.out 0).trans rfl; have hcz13_1 : w12.cell? ⟨gb140, 1, none⟩ = some (.slice A0_1 l0_1.length c0_1) := (blk_cell BK140.out 1).trans rfl; have hcz13_2 : w12.cell? ⟨gb140, 2, none⟩ = some (.int .i64 a0_2) := (blk_cell BK140.out 2).trans rfl; have hfz13_0 := blk_frozen BK140.out 0; have hfz13_1 := blk_frozen BK140.out 1; have hfz13_2 := blk_frozen BK140.out 2) | ((with_reducible refine gate_callee (f := 57) rfl ?_); refine goesL_ (some 8) rfl rfl Try.func57 (by kernel_rfl) rfl #[.slice A0_0 l0_0.length c0_0, .int .i64 a1] rfl (by (try simp only [List.map_toArray, List.map_cons, List.map_nil]); first | done | rfl | (simp only [List.length_drop, List.length_take]; rfl)) ?_; (with_reducible refine (laws_heldVolS.calls k _ _ l0_0 a1 t141 _ ?side1 ?side2 A3.out).mono ?_); (case side1 => repeat (first | exact (Kd.C_below HR0_0.out HB.out) | (with_reducible refine Kd.C_alloc ?_ _) | (with_reducible refine Kd.C_drewN ?_ _) | (with_reducible refine Kd.C_drew ?_))); (case side2 => exact HC0_0.out); rintro e w' ⟨rfl, ⟨nd, rfl⟩⟩; refine ⟨_, rfl, ?_⟩) | ((with_reducible refine gate_callee (f := 58) rfl ?_); refine goesL_ (some 14) rfl rfl Try.func58 (by kernel_rfl) rfl #[.agg #[.slice A0_1 l0_1.length c0_1], .int .i64 t141] rfl (by (try simp only [List.map_toArray, List.map_cons, List.map_nil]); first | done | rfl | (simp only [List.length_drop, List.length_take]; rfl)) ?_; (with_reducible refine (laws_heldArena.calls k _ _ l0_1 t141 t142 _ ?side1 ?side2 A7.out).mono ?_); (case side1 => repeat (first | exact (Kd.C_below HR0_1.out (by repeat (first | (with_reducible first | exact HB.out | apply below_alloc | apply pw_below_drewN | apply below_drew1 | refine below_set ?_ GE140.out) | exact HB.out))) | (with_reducible refine Kd.C_alloc ?_ _) | (with_reducible refine Kd.C_drewN ?_ _) | (with_reducible refine Kd.C_drew ?_))); (case side2 => exact HC0_1.out); rintro e w14 ⟨rfl, hb⟩; refine ⟨_, rfl, ?_⟩; have n0_ := Aside0.mk (blk_below (g := gb140) (o := .cells #[.slice A0_0 l0_0.length c0_0, .slice A0_1 l0_1.length c0_1, .int .i64 a0_2] 27 (0, 0)) (by (with_reducible repeat (first | refine blk_drewN ?_ _ | refine blk_drew ?_ | refine blk_alloc ?_ _)); exact BK140.out) hb); have n1_ := Aside0.mk (below_step (by repeat (first | (with_reducible first | exact HB.out | apply below_alloc | apply pw_below_drewN | apply below_drew1 | refine below_set ?_ GE140.out) | exact HB.out)) hb); clear BK140; clear HB; have BK140 := n0_; have HB := n1_; clear n0_ n1_; (try clear hb); (try clear hb2); (try clear hk); (try clear hi)))
      go_ret
      exact ⟨by first | rfl | (simp [errW_none, errW_some] <;> rfl) | (simp [*, errW_none, errW_some] <;> rfl), by repeat (first | (with_reducible first | exact HB.out | apply below_alloc | apply pw_below_drewN | apply below_drew1 | refine below_set ?_ GE140.out) | exact HB.out)⟩

end Go.Proofs.Ytijbejiajaiciaa.PC

/- Marks of a store. -/
namespace Go.Proofs.Ytijbejiajaiciaa.Pu
set_option linter.unusedVariables false
set_option linter.unusedSimpArgs false
open Go.RowKit Go.Proofs.Ytijbejiajaiciaa.PC Go.Proofs.YtijbejiajaiciaaW.PrintWords

theorem mark_vols (l : List S124) (a : Int) (hn : (l.length : Int) ≤ 1099511627776) (ha : 0 ≤ a) (hM : a + l.length * 2 ≤ 4611686018427387904) :
    ∃ a' l', l'.length = l.length ∧ Ev (fun k => laws_markVolS.f k l a) (a', l') ∧ Ev (fun k => laws_heldVolS.f k l' a) a' ∧ a ≤ a' ∧ a' ≤ a + l.length * 2 := by
  obtain ⟨a', l', h1, _, h2, h3, h4, h5⟩ := ev_mark z124 (L := fun k xs a i => laws_markVolS.l0 k xs a i) (Hd := fun k xs a i => laws_heldVolS.l0 k xs a i)
    (fun _ x a => some (wrap64 ((wrap64 (a + 1)) + 1), (⟨a, wrap64 (a + 1)⟩ : S124))) (fun _ x a => (if x.f0 = a then (if x.f1 = (wrap64 (a + 1)) then some (wrap64 ((wrap64 (a + 1)) + 1)) else some (-1)) else some (-1))) 2 (fun _ => True)
    (fun k xs a i hi _ _ => by
      have e1 : ∀ v, rd_T124 (xs.set i v) (i : Int) = v := fun v => getD_set_self hi
      simp only [laws_markVolS.l0]
      rw [if_pos (by omega), if_pos (by omega)]
      simp only [Option.bind_some, Int.toNat_natCast, e1, List.set_set])
    (fun k xs a i hi => by
      simp only [laws_markVolS.l0]
      rw [if_neg (by omega)])
    (fun k xs a i hi h0 h1 => by
      have er : rd_T124 xs (i : Int) = xs.getD i z124 := rfl
      have ew : wrap64 ((wrap64 (a + 1)) + 1) = a + 2 := by rw [w64 (x := a + 1) (by omega) (by omega)]; rw [w64 (x := a + 1 + 1) (by omega) (by omega)]; omega
      simp only [laws_heldVolS.l0]
      rw [if_pos (by omega), if_pos (by omega), er]
      generalize xs.getD i z124 = y
      by_cases q0 : y.f0 = a
      rotate_left
      · simp only [if_neg q0, Option.bind_some]
        rw [if_pos (by omega)]
      by_cases q1 : y.f1 = wrap64 (a + 1)
      rotate_left
      · simp only [if_pos q0, if_neg q1, Option.bind_some]
        rw [if_pos (by omega)]
      simp only [if_pos q0, if_pos q1, Option.bind_some]
      rw [if_neg (by omega)])
    (fun k xs a i hi => by
      simp only [laws_heldVolS.l0]
      rw [if_neg (by omega)])
    (by omega)
    (fun x a _ h0 h1 => by
      have ew : wrap64 ((wrap64 (a + 1)) + 1) = a + 2 := by rw [w64 (x := a + 1) (by omega) (by omega)]; rw [w64 (x := a + 1 + 1) (by omega) (by omega)]; omega
      exact ⟨a + 2, ⟨a, wrap64 (a + 1)⟩, by simp only [ew]; exact Ev.now _, by simp only [if_true, ew]; exact Ev.now _, by omega, by omega⟩)
    l.length 0 l a (by omega) (by omega) (fun _ _ _ => trivial) ha (by omega)
  exact ⟨a', l', h1, h2, h3, h4, h5⟩
theorem mark_store (v : List S124) (l : List S138) (n a : Int) (hv : v.length ≤ 1048576) (hn : l.length ≤ 1048576) (hk : ∀ x ∈ l, x.f1.length ≤ 1048576) (ha : 0 ≤ a) (hM : a ≤ 1048576) :
    ∃ a' v' l', Ev (fun k => laws_markStore.f k v l n a) (a', v', l') ∧ Ev (fun k => laws_heldStore.f k v' l' n a) a' ∧ a ≤ a' := by
  obtain ⟨a1, v1, _, g1, g2, g3, g4⟩ := mark_vols v a (by omega) ha (by omega)
  obtain ⟨a2, l2, _, k1, k2, k3, _⟩ := mark_arena l a1 hn hk (by omega) (by omega)
  refine ⟨a2, v1, l2, ?_, ?_, by omega⟩
  · unfold laws_markStore.f; exact ev_bind g1 (ev_bind k1 (Ev.now _))
  · unfold laws_heldStore.f
    refine ev_bind g2 ?_
    simp only [if_neg (show ¬ a1 < 0 by omega)]
    exact ev_bind k2 (by simp only [if_neg (show ¬ a2 < 0 by omega)]; exact Ev.now _)
end Go.Proofs.Ytijbejiajaiciaa.Pu

/- Marks of a row of records, and a row of records held against itself. -/
namespace Go.Proofs.Ytijbejiajaiciaa.Pu
set_option linter.unusedVariables false
set_option linter.unusedSimpArgs false
open Go.RowKit Go.Proofs.Ytijbejiajaiciaa.PC Go.Proofs.YtijbejiajaiciaaW.PrintWords

theorem mark_recs (l : List S100) (a : Int) (hn : (l.length : Int) ≤ 1099511627776) (ha : 0 ≤ a) (hM : a + l.length * 4 ≤ 4611686018427387904) :
    ∃ a' l', l'.length = l.length ∧ Ev (fun k => laws_markRecS.f k l a) (a', l') ∧ Ev (fun k => laws_heldRecS.f k l' a) a' ∧ a ≤ a' ∧ a' ≤ a + l.length * 4 := by
  obtain ⟨a', l', h1, _, h2, h3, h4, h5⟩ := ev_mark z100 (L := fun k xs a i => laws_markRecS.l0 k xs a i) (Hd := fun k xs a i => laws_heldRecS.l0 k xs a i)
    (fun _ x a => some (wrap64 ((wrap64 ((wrap64 ((wrap64 (a + 1)) + 1)) + 1)) + 1), (⟨a, wrap64 (a + 1), wrap64 ((wrap64 (a + 1)) + 1), wrap64 ((wrap64 ((wrap64 (a + 1)) + 1)) + 1)⟩ : S100))) (fun _ x a => (if x.f0 = a then (if x.f1 = (wrap64 (a + 1)) then (if x.f2 = (wrap64 ((wrap64 (a + 1)) + 1)) then (if x.f3 = (wrap64 ((wrap64 ((wrap64 (a + 1)) + 1)) + 1)) then some (wrap64 ((wrap64 ((wrap64 ((wrap64 (a + 1)) + 1)) + 1)) + 1)) else some (-1)) else some (-1)) else some (-1)) else some (-1))) 4 (fun _ => True)
    (fun k xs a i hi _ _ => by
      have e1 : ∀ v, rd_T100 (xs.set i v) (i : Int) = v := fun v => getD_set_self hi
      simp only [laws_markRecS.l0]
      rw [if_pos (by omega), if_pos (by omega)]
      simp only [Option.bind_some, Int.toNat_natCast, e1, List.set_set])
    (fun k xs a i hi => by
      simp only [laws_markRecS.l0]
      rw [if_neg (by omega)])
    (fun k xs a i hi h0 h1 => by
      have er : rd_T100 xs (i : Int) = xs.getD i z100 := rfl
      have ew : wrap64 ((wrap64 ((wrap64 ((wrap64 (a + 1)) + 1)) + 1)) + 1) = a + 4 := by rw [w64 (x := a + 1) (by omega) (by omega)]; rw [w64 (x := a + 1 + 1) (by omega) (by omega)]; rw [w64 (x := a + 1 + 1 + 1) (by omega) (by omega)]; rw [w64 (x := a + 1 + 1 + 1 + 1) (by omega) (by omega)]; omega
      simp only [laws_heldRecS.l0]
      rw [if_pos (by omega), if_pos (by omega), er]
      generalize xs.getD i z100 = y
      by_cases q0 : y.f0 = a
      rotate_left
      · simp only [if_neg q0, Option.bind_some]
        rw [if_pos (by omega)]
      by_cases q1 : y.f1 = wrap64 (a + 1)
      rotate_left
      · simp only [if_pos q0, if_neg q1, Option.bind_some]
        rw [if_pos (by omega)]
      by_cases q2 : y.f2 = wrap64 ((wrap64 (a + 1)) + 1)
      rotate_left
      · simp only [if_pos q0, if_pos q1, if_neg q2, Option.bind_some]
        rw [if_pos (by omega)]
      by_cases q3 : y.f3 = wrap64 ((wrap64 ((wrap64 (a + 1)) + 1)) + 1)
      rotate_left
      · simp only [if_pos q0, if_pos q1, if_pos q2, if_neg q3, Option.bind_some]
        rw [if_pos (by omega)]
      simp only [if_pos q0, if_pos q1, if_pos q2, if_pos q3, Option.bind_some]
      rw [if_neg (by omega)])
    (fun k xs a i hi => by
      simp only [laws_heldRecS.l0]
      rw [if_neg (by omega)])
    (by omega)
    (fun x a _ h0 h1 => by
      have ew : wrap64 ((wrap64 ((wrap64 ((wrap64 (a + 1)) + 1)) + 1)) + 1) = a + 4 := by rw [w64 (x := a + 1) (by omega) (by omega)]; rw [w64 (x := a + 1 + 1) (by omega) (by omega)]; rw [w64 (x := a + 1 + 1 + 1) (by omega) (by omega)]; rw [w64 (x := a + 1 + 1 + 1 + 1) (by omega) (by omega)]; omega
      exact ⟨a + 4, ⟨a, wrap64 (a + 1), wrap64 ((wrap64 (a + 1)) + 1), wrap64 ((wrap64 ((wrap64 (a + 1)) + 1)) + 1)⟩, by simp only [ew]; exact Ev.now _, by simp only [if_true, ew]; exact Ev.now _, by omega, by omega⟩)
    l.length 0 l a (by omega) (by omega) (fun _ _ _ => trivial) ha (by omega)
  exact ⟨a', l', h1, h2, h3, h4, h5⟩
theorem eqRecS_ev (l : List S100) (hn : l.length ≤ 9223372036854775807) : Ev (fun k => laws_eqRecS.f k l l) true := by
  have h1 := ev_all (n := l.length) (m := l.length) (L := fun k i => laws_eqRecS.l0 k l l i) (E := fun _ i => laws_eqRec.f (rd_T100 l i).f0 (rd_T100 l i).f1 (rd_T100 l i).f2 (rd_T100 l i).f3 (rd_T100 l i).f0 (rd_T100 l i).f1 (rd_T100 l i).f2 (rd_T100 l i).f3) hn (Nat.le_refl _) (fun k i => by simp only [laws_eqRecS.l0]) (fun i _ => ev_const (by unfold laws_eqRec.f; simp only [if_true])) l.length 0 (by omega)
  unfold laws_eqRecS.f
  simp only [if_true]
  exact h1
end Go.Proofs.Ytijbejiajaiciaa.Pu

/- FnExactBaseRecs: the program's and the reference's records of a store are one, and the program's are its own. -/
namespace Go.Proofs.Ytijbejiajaiciaa.Pure
set_option linter.unusedVariables false
set_option linter.unusedSimpArgs false
open Go.RowKit Go.Proofs.Ytijbejiajaiciaa.PC Go.Proofs.YtijbejiajaiciaaW.PrintWords Go.Proofs.Ytijbejiajaiciaa.Pu

theorem FnExactBaseRecs : ∀ (l0_0 : List S153) (l0_1 : List S134) (a0_2 : Int), (l0_0.length ≤ maxLen ∧ ∀ x_l0_0 ∈ l0_0, ((Lit.int .i64 x_l0_0.f0).wf = true ∧ (Lit.int .i64 x_l0_0.f1).wf = true)) → (l0_1.length ≤ maxLen ∧ ∀ x_l0_1 ∈ l0_1, (True ∧ (x_l0_1.f1.length ≤ maxLen ∧ ∀ x_x_l0_1f1 ∈ x_l0_1.f1, (Lit.int .i64 x_x_l0_1f1).wf = true))) → (Lit.int .i64 a0_2).wf = true → ∃ k, laws_FnExactBaseRecs.f k l0_0 l0_1 a0_2 = some true := by
  intro v l n ⟨hv, _⟩ ⟨hl, hx⟩ _
  refine Ev.rounds (g := fun k => laws_FnExactBaseRecs.f k v l n) ?_
  obtain ⟨r, hr, _, hq⟩ := store_start (n := n) (a := 1048576) (by omega) (by omega) hv hl (fun x h => (hx x h).2.1)
  unfold laws_FnExactBaseRecs.f
  refine ev_bind hr ?_
  by_cases h : r < 0
  · simp only [if_pos h]; exact Ev.now _
  · simp only [if_neg h]
    obtain ⟨hto, heq, hn, ha, hm⟩ := hq (by omega)
    have hs := sBase_ev (v.map toVl) (toA l) n hn (by omega)
    have hi := iBase_ev (v.map toVl) (toA l) n hn (by omega)
    have hle := baseB_le (v.map toVl) (toA l) n hn
    have eqi := eqRecS_ev (baseB (v.map toVl) (toA l) n) (by omega)
    obtain ⟨ka, v', l', hmk, _, hk0⟩ := mark_store (v.map toVl) (toA l) n 1 hn ha hm (by omega) (by omega)
    obtain ⟨m, g', _, hm1, hm2, hm0, _⟩ := mark_recs (baseB (v.map toVl) (toA l) n) 1 (by omega) (by omega) (by omega)
    refine ev_bind hto (ev_bind hs (ev_bind hto (ev_bind hi (ev_bind eqi ?_))))
    simp only [if_true]
    refine ev_bind hto (ev_bind heq ?_)
    simp only [if_true]
    refine ev_bind hmk (ev_bind eqi ?_)
    simp only [if_true, if_neg (show ¬ ka < 0 by omega)]
    refine ev_bind hm1 (ev_bind hm2 ?_)
    simp only [if_true, if_neg (show ¬ m < 0 by omega)]
    refine ev_bind hto (ev_bind hi (ev_bind eqi ?_))
    simp only [if_true]
    refine ev_bind hm2 ?_
    simp only [if_true, if_neg (show ¬ m < 0 by omega)]
    exact Ev.now _
end Go.Proofs.Ytijbejiajaiciaa.Pure

/- FnExactBaseRecs: whatever the input, the law returns true, and its arguments read as they did. The row, out of the law's own walk and the pure statement. -/
namespace Go.Proofs.Ytijbejiajaiciaa.fnExactBaseRecs
open Go.ChangeShapes Go.WideShapes Go.ChangeAt Go.RowKit Go.Proofs.Ytijbejiajaiciaa.Open Go.Proofs.YtijbejiajaiciaaW.PrintWords Go.Proofs.Ytijbejiajaiciaa.PC
open Go.ChangeMaps (open_string shut_string)
theorem own : ownKnob Try.prog.godebug = none := by kernel_rfl
theorem laidOut : laidOutB Try.prog = true := by kernel_rfl
set_option maxRecDepth 100000 in
theorem o134 : Opn Try.prog 134 k134 (fun x => (True ∧ (x.f1.length ≤ maxLen ∧ ∀ x_xf1 ∈ x.f1, (Lit.int .i64 x_xf1).wf = true))) := opn_struct (d := (Kd.pair Kd.bool (Kd.slice 3 (Kd.int .i64)))) (wf := fun (y : Bool × (List Int)) => (True ∧ (y.2.length ≤ maxLen ∧ ∀ x_y2 ∈ y.2, (Lit.int .i64 x_y2).wf = true))) (fun x : S134 => (x.f0, x.f1)) (fun y => (⟨y.1, y.2⟩ : S134)) (fun _ => rfl) Try.underlying134 (by kernel_rfl) (opnF_cons rfl (by kernel_rfl) (opn_bool Try.underlying4) (opnF_one rfl (by kernel_rfl) (opn_slice Try.underlying44 (by kernel_rfl) (opn_int Try.underlying3))))
set_option maxRecDepth 100000 in
theorem p42 : Opn Try.prog 42 (Kd.slice 134 k134) (fun (y : (List S134)) => (y.length ≤ maxLen ∧ ∀ x_y ∈ y, (True ∧ (x_y.f1.length ≤ maxLen ∧ ∀ x_x_yf1 ∈ x_y.f1, (Lit.int .i64 x_x_yf1).wf = true)))) := opn_tuple Try.underlying42 (by kernel_rfl) (opnF_one rfl (by kernel_rfl) (opn_slice Try.underlying40 (by kernel_rfl) o134))
set_option maxRecDepth 100000 in
theorem o153 : Opn Try.prog 153 k153 (fun x => ((Lit.int .i64 x.f0).wf = true ∧ (Lit.int .i64 x.f1).wf = true)) := opn_struct (d := (Kd.pair (Kd.int .i64) (Kd.int .i64))) (wf := fun (y : Int × Int) => ((Lit.int .i64 y.1).wf = true ∧ (Lit.int .i64 y.2).wf = true)) (fun x : S153 => (x.f0, x.f1)) (fun y => (⟨y.1, y.2⟩ : S153)) (fun _ => rfl) Try.underlying153 (by kernel_rfl) (opnF_cons rfl (by kernel_rfl) (opn_int Try.underlying3) (opnF_one rfl (by kernel_rfl) (opn_int Try.underlying3)))
set_option maxRecDepth 100000 in
theorem p74 : Opn Try.prog 74 (Kd.pair (Kd.slice 153 k153) (Kd.pair (Kd.slice 134 k134) (Kd.int .i64))) (fun (y : ((List S153) × (List S134) × Int)) => ((y.1.length ≤ maxLen ∧ ∀ x_y1 ∈ y.1, ((Lit.int .i64 x_y1.f0).wf = true ∧ (Lit.int .i64 x_y1.f1).wf = true)) ∧ ((y.2.1.length ≤ maxLen ∧ ∀ x_y21 ∈ y.2.1, (True ∧ (x_y21.f1.length ≤ maxLen ∧ ∀ x_x_y21f1 ∈ x_y21.f1, (Lit.int .i64 x_x_y21f1).wf = true))) ∧ (Lit.int .i64 y.2.2).wf = true))) := opn_tuple Try.underlying74 (by kernel_rfl) (opnF_cons rfl (by kernel_rfl) (opn_slice Try.underlying72 (by kernel_rfl) o153) (opnF_cons (a := (Kd.slice 134 k134)) (wa := fun (y : (List S134)) => (y.length ≤ maxLen ∧ ∀ x_y ∈ y, (True ∧ (x_y.f1.length ≤ maxLen ∧ ∀ x_x_yf1 ∈ x_y.f1, (Lit.int .i64 x_x_yf1).wf = true)))) rfl (by kernel_rfl) p42 (opnF_one rfl (by kernel_rfl) (opn_int Try.underlying3))))
set_option maxRecDepth 100000 in
set_option maxHeartbeats 4000000 in
theorem lifted (os : Os) (started : os.Started) (H : Type) (enc : TypeId × Value → H) :
    ReturnsInHanded {} Try.checked os 8 .any (Rows.fnExactBaseRecsSpec.pre6 enc Try.prog Try.f8 Rows.fnExactBaseRecsRow.domain false) (Rows.fnExactBaseRecsSpec.post enc Try.prog Try.f8 false true false false) := by
  refine returnsInHanded_of_change_sized (C := Try.checked) own started (by kernel_rfl) Try.func8
    (ChangeSpec.witness6 (enc := enc) (C := Try.checked) false ⟨#[], #[.agg #[.slice none 0 0, .slice none 0 0, .int .i64 0]], []⟩ 8 (by kernel_rfl) (by kernel_rfl) (by kernel_rfl) (by kernel_rfl)) ?_
  intro W base args ds gs before hval0 hW hcnd hsz0 _
  have hval : ∀ (j : Nat) t v, Try.f8.params[j]? = some t → args[j]? = some v → Value.okWide Try.prog W .any base t v := hval0
  have hW' := hW
  obtain ⟨p, q, hA0, hV, rfl, hfz, hnd⟩ := hW
  have hA : DataW.TrodAll enc Try.prog W 0 (fun _ => true) true Try.f8.params.toList args.toList ds p := hA0
  rw [Try.params8] at hA hval
  obtain ⟨v0, vs0, d0, ds0, p0, q0, hargs, rfl, rfl, h0, r0⟩ := trodAll_cons hA
  obtain ⟨rfl, rfl, rfl⟩ := trodAll_nil r0
  obtain rfl : args = #[v0] := by cases args; simp_all
  obtain ⟨rfl, rfl⟩ := trodVars_none hV
  have k0 := h0
  have lt0 : ∀ x ∈ p0, x.block < W.heap.size := by obtain ⟨m, hm⟩ := k0; exact DataW.trod_lt m _ _ _ hm
  obtain ⟨fu0, hf0⟩ := h0
  obtain ⟨y0, K0, Y0⟩ := p74 H enc W 0 (fun _ => true) true fu0 _ _ hf0
  obtain ⟨cs0, rfl, sz0⟩ := okWide_struct Try.underlying74 (hval 0 74 v0 rfl rfl)
  obtain ⟨c0_0, c0_r0, ec0_r0, hc0_0, hc0_r0⟩ := K0
  obtain ⟨Ac0_0, Cc0_0, Ec0_0, Lc0_0, Gc0_0⟩ := hc0_0
  obtain ⟨c0_r0_1, c0_r0_r1, ec0_r0_r1, hc0_r0_1, hc0_r0_r1⟩ := hc0_r0
  obtain ⟨Ac0_r0_1, Cc0_r0_1, Ec0_r0_1, Lc0_r0_1, Gc0_r0_1⟩ := hc0_r0_1
  have Ec0_r0_r1 := hc0_r0_r1
  have E0 : cs0 = #[.slice Ac0_0 y0.1.length Cc0_0, .slice Ac0_r0_1 y0.2.1.length Cc0_r0_1, .int .i64 y0.2.2] := by
    apply Array.toList_inj.1
    have z : cs0.toList = _ := ec0_r0
    rw [z]
    rw [ec0_r0_r1, Ec0_0, Ec0_r0_1, Ec0_r0_r1]
    rfl
  subst E0
  obtain ⟨k, hp⟩ := Pure.FnExactBaseRecs y0.1 y0.2.1 y0.2.2 Y0.1 Y0.2.1 Y0.2.2
  clear hA0 hval0 hsz0
  refine (laws_FnExactBaseRecs.calls k Ac0_0 Cc0_0 y0.1 Ac0_r0_1 Cc0_r0_1 y0.2.1 y0.2.2 true ⟨rfl⟩ W Gc0_0 Lc0_0 Gc0_r0_1 Lc0_r0_1 hp).mono fun e W' ⟨he, bel0⟩ => ?_
  have bel : Below W.heap.size W W' := bel0
  subst he
  exact ⟨_, rfl, _, _, _, [], _, [], hW', trodAll_mk1 (shut_bool Try.underlying4 _), (trodAll_cons_mk (Below.trod laidOut (by kernel_rfl) (of_decide_eq_true (by kernel_rfl)) k0 bel lt0) trodAll_mk0), rfl, bel.frame _, fun h => by cases h⟩
theorem over : Rows.fnExactBaseRecsRow.holds Try.pinned (OpenSpec.ofChange Rows.fnExactBaseRecsSpec) :=
  OpenClaim.holds_of_wide 8 Try.f8 rfl rfl rfl rfl rfl rfl rfl ⟨rfl, rfl, rfl, rfl, rfl⟩ rfl rfl rfl rfl rfl (by kernel_rfl) Try.func8 (by kernel_rfl)
    (of_decide_eq_true (by kernel_rfl)) (by unfold Func.isWrapper; first | (rw [if_pos (by decide +kernel)]; kernel_rfl) | (rw [if_neg (by decide +kernel)]; exact ⟨rfl, rfl⟩))
    (fun os started H enc _ => lifted os started H enc)
theorem proved : Rows.FnExactBaseRecsSaid := over
#print axioms proved
end Go.Proofs.Ytijbejiajaiciaa.fnExactBaseRecs
namespace Go.Proofs.Ytijbejiajaiciaa
/-- The row, under a short name, for the claim. -/
theorem fnExactBaseRecs_holds : Rows.FnExactBaseRecsSaid := fnExactBaseRecs.proved
end Go.Proofs.Ytijbejiajaiciaa
