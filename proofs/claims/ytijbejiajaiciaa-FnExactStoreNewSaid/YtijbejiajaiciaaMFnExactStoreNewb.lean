/- FnExactStoreNew: functions of the translation as Lean functions with what their calls come to, plain lemmas on them, and, at the end, the row. Parts of one proof, merged by a program of this session; each part's own sentence stands at its head. -/
import Derived.ChangeArms
import Derived.DataReads
import Derived.Test.YtijbejiajaiciaaRows
import Derived.WalkKit
import Derived.ProofKit
import Derived.OpenShut
import Derived.ShutString
import Derived.ChangeOld
import Derived.Below
import Derived.SizedLaws
import Derived.Test.YtijbejiajaiciaaMFnExactStoreNewa
/- Functions of the translation as plain Lean functions, and for each that its call comes to just what its Lean function answers; its conditions stand in each theorem. Written by a program of this session. -/
namespace Go.Proofs.Ytijbejiajaiciaa.PC
open Go.RowKit Go.Proofs.YtijbejiajaiciaaW.PrintWords Go.Proofs.YtijbejiajaiciaaW.PrintLast Go.Proofs.YtijbejiajaiciaaW.PrintMore
attribute [local go_sem] max2_int min2_int max_two min_two max_three min_three max_four min_four   -- for this text's walks alone
set_option linter.unusedVariables false
set_option linter.unusedSimpArgs false

/-! ### laws_eqStore: function 12 -/
def laws_eqStore.f (k : Nat) (l0_0 : List (S124)) (l0_1 : List (S138)) (a0_2 : Int) (l1_0 : List (S124)) (l1_1 : List (S138)) (a1_2 : Int) : Option (Bool) := (laws_eqVolS.f k l0_0 l1_0).bind fun t121 => (if t121 = true then ((laws_eqArena.f k l0_1 l1_1).bind fun t122 => (if t122 = true then (if a0_2 = a1_2 then (some true) else (some false)) else (some false))) else (some false))
theorem laws_eqStore.mono : ∀ a0 a1 a2 a3 a4 a5 k, LeO (laws_eqStore.f k a0 a1 a2 a3 a4 a5) (laws_eqStore.f (k + 1) a0 a1 a2 a3 a4 a5) := by
  intro a0 a1 a2 a3 a4 a5 k
  unfold laws_eqStore.f
  repeat' first
      | (with_reducible exact laws_eqArena.mono _ _ _)
      | (with_reducible exact laws_eqVolS.mono _ _ _)
      | (with_reducible exact LeO.refl _)
      | (with_reducible exact LeO.none _)
      | (with_reducible refine LeO.ite ?_ ?_)
      | (with_reducible refine LeO.bind ?_ (fun _ => ?_))
      | exact laws_eqArena.mono _ _ _
      | exact laws_eqVolS.mono _ _ _
      | exact LeO.none _
      | refine LeO.ite ?_ ?_
      | refine LeO.bind ?_ (fun _ => ?_)
set_option maxHeartbeats 8000000 in
set_option maxRecDepth 100000 in
theorem laws_eqStore.calls (k : Nat) (A0_0 : Option Addr) (c0_0 : Nat) (l0_0 : List (S124)) (A0_1 : Option Addr) (c0_1 : Nat) (l0_1 : List (S138)) (a0_2 : Int) (A1_0 : Option Addr) (c1_0 : Nat) (l1_0 : List (S124)) (A1_1 : Option Addr) (c1_1 : Nat) (l1_1 : List (S138)) (a1_2 : Int) (r : Bool) (w : World) (hr0_0 : Kd.C k124 w A0_0 l0_0.length l0_0) (hc0_0 : l0_0.length ≤ c0_0) (hr0_1 : Kd.C k138 w A0_1 l0_1.length l0_1) (hc0_1 : l0_1.length ≤ c0_1) (hr1_0 : Kd.C k124 w A1_0 l1_0.length l1_0) (hc1_0 : l1_0.length ≤ c1_0) (hr1_1 : Kd.C k138 w A1_1 l1_1.length l1_1) (hc1_1 : l1_1.length ≤ c1_1) (h : laws_eqStore.f k l0_0 l0_1 a0_2 l1_0 l1_1 a1_2 = some r) :
    Calls Try.prog 12 #[.agg #[.slice A0_0 l0_0.length c0_0, .slice A0_1 l0_1.length c0_1, .int .i64 a0_2], .agg #[.slice A1_0 l1_0.length c1_0, .slice A1_1 l1_1.length c1_1, .int .i64 a1_2]] w fun e w' => e = .returned (.bool r) ∧ Below w.heap.size w w' := by
  have hu27 := Try.underlying27
  have hu25 := Try.underlying25
  have HR0_0 := Aside0.mk hr0_0
  have HC0_0 := Aside0.mk hc0_0
  clear hr0_0 hc0_0
  have HR0_1 := Aside0.mk hr0_1
  have HC0_1 := Aside0.mk hc0_1
  clear hr0_1 hc0_1
  have HR1_0 := Aside0.mk hr1_0
  have HC1_0 := Aside0.mk hc1_0
  clear hr1_0 hc1_0
  have HR1_1 := Aside0.mk hr1_1
  have HC1_1 := Aside0.mk hc1_1
  clear hr1_1 hc1_1
  have HB := Aside0.mk (Below.refl w.heap.size w)
  have H : ((laws_eqVolS.f k l0_0 l1_0).bind fun t121 => (if t121 = true then ((laws_eqArena.f k l0_1 l1_1).bind fun t122 => (if t122 = true then (if a0_2 = a1_2 then (some true) else (some false)) else (some false))) else (some false))) = some r := h
  clear h
  replace H := Option.bind_eq_some_iff.mp H
  obtain ⟨t121, A30, H⟩ := H
  replace H : (if t121 = true then ((laws_eqArena.f k l0_1 l1_1).bind fun t122 => (if t122 = true then (if a0_2 = a1_2 then (some true) else (some false)) else (some false))) else (some false)) = some r := H
  have A3 := Aside0.mk A30
  clear A30
  by_cases c4 : t121 = true
  · subst c4
    have H1 : ((laws_eqArena.f k l0_1 l1_1).bind fun t122 => (if t122 = true then (if a0_2 = a1_2 then (some true) else (some false)) else (some false))) = some r := by rw [if_pos rfl] at H; exact H
    clear H
    have H := H1
    clear H1
    replace H := Option.bind_eq_some_iff.mp H
    obtain ⟨t122, A50, H⟩ := H
    replace H : (if t122 = true then (if a0_2 = a1_2 then (some true) else (some false)) else (some false)) = some r := H
    have A5 := Aside0.mk A50
    clear A50
    by_cases c6 : t122 = true
    · subst c6
      have H1 : (if a0_2 = a1_2 then (some true) else (some false)) = some r := by rw [if_pos rfl] at H; exact H
      clear H
      have H := H1
      clear H1
      by_cases c7 : a0_2 = a1_2
      · rw [if_pos c7] at H
        have c7b0 : (a0_2 == a1_2) = true := beq_iff_eq.mpr c7
        have c7b1 : (a0_2 != a1_2) = false := bne_eq_false_iff_eq.mpr c7
        clear c7
        obtain rfl := Option.some.inj H
        go_enter Try.func12, Try.ntmps12
        go_wp2_with (first | ((with_reducible refine gate_dst (N := 2) rfl ?_); refine box_event ?hg (N := 2) ?hd (cs := #[.slice A0_0 l0_0.length c0_0, .slice A0_1 l0_1.length c0_1, .int .i64 a0_2]) (t := 27) ?hr ?_; (case hd => rfl); (case hg => rfl); (case hr => first | (go_simp; done) | (go_simp; rfl)); intro gb119 hg w8 hbox hb; have n0_ := Aside0.mk (below_step (by repeat (first | (with_reducible first | exact HB.out | apply below_alloc | apply pw_below_drewN | apply below_drew1) | exact HB.out)) hb); have n1_ := Aside0.mk (hbox); have n2_ := Aside0.mk ((by rw [hg]; exact (below_size (by repeat (first | (with_reducible first | exact HB.out | apply below_alloc | apply pw_below_drewN | apply below_drew1) | exact HB.out))) : w.heap.size ≤ gb119)); have n3_ := Aside0.mk ((by rw [hg]; exact (below_size (by repeat (first | (with_reducible first | exact HB.out | apply below_alloc | apply pw_below_drewN | apply below_drew1) | exact HB.out))) : w.heap.size ≤ gb119)); clear HB; have HB := n0_; have BK119 := n1_; have GW119 := n2_; have GE119 := n3_; clear n0_ n1_ n2_ n3_; clear hb hbox hg) | ((with_reducible refine gate_dst (N := 3) rfl ?_); refine box_event ?hg (N := 3) ?hd (cs := #[.slice A1_0 l1_0.length c1_0, .slice A1_1 l1_1.length c1_1, .int .i64 a1_2]) (t := 27) ?hr ?_; (case hd => rfl); (case hg => rfl); (case hr => first | (go_simp; done) | (go_simp; rfl)); intro gb120 hg w9 hbox hb; have n0_ := Aside0.mk (blk_below (g := gb119) (o := .cells #[.slice A0_0 l0_0.length c0_0, .slice A0_1 l0_1.length c0_1, .int .i64 a0_2] 27 (0, 0)) (by (with_reducible repeat (first | refine blk_drewN ?_ _ | refine blk_drew ?_ | refine blk_alloc ?_ _)); exact BK119.out) hb); have n1_ := Aside0.mk (below_step (by repeat (first | (with_reducible first | exact HB.out | apply below_alloc | apply pw_below_drewN | apply below_drew1 | refine below_set ?_ GE119.out) | exact HB.out)) hb); have n2_ := Aside0.mk (hbox); have n3_ := Aside0.mk ((by rw [hg]; exact (below_size (by repeat (first | (with_reducible first | exact HB.out | apply below_alloc | apply pw_below_drewN | apply below_drew1 | refine below_set ?_ GE119.out) | exact HB.out))) : w.heap.size ≤ gb120)); have n4_ := Aside0.mk ((by rw [hg]; exact (below_size (by repeat (first | (with_reducible first | exact HB.out | apply below_alloc | apply pw_below_drewN | apply below_drew1 | refine below_set ?_ GE119.out) | exact HB.out))) : w.heap.size ≤ gb120)); have n5_ := Aside0.mk ((by rw [hg]; exact Nat.ne_of_lt (blk_lt (g := gb119) (o := .cells #[.slice A0_0 l0_0.length c0_0, .slice A0_1 l0_1.length c0_1, .int .i64 a0_2] 27 (0, 0)) (by (with_reducible repeat (first | refine blk_drewN ?_ _ | refine blk_drew ?_ | refine blk_alloc ?_ _)); exact BK119.out)) : gb119 ≠ gb120)); have n6_ := Aside0.mk ((by rw [hg]; exact Nat.ne_of_gt (blk_lt (g := gb119) (o := .cells #[.slice A0_0 l0_0.length c0_0, .slice A0_1 l0_1.length c0_1, .int .i64 a0_2] 27 (0, 0)) (by (with_reducible repeat (first | refine blk_drewN ?_ _ | refine blk_drew ?_ | refine blk_alloc ?_ _)); exact BK119.out)) : gb120 ≠ gb119)); clear BK119; clear HB; have BK119 := n0_; have HB := n1_; have BK120 := n2_; have GW120 := n3_; have GE120 := n4_; have NB119_120 := n5_; have NB120_119 := n6_; clear n0_ n1_ n2_ n3_ n4_ n5_ n6_; clear hb hbox hg; have hnb10 := NB119_120.out; have hnc10 := NB120_119.out; have hcz11_0 : w9.cell? ⟨gb119, 0, none⟩ = some (.slice A0_0 l0_0.length c0_0) := (blk_cell BK119.out 0).trans rfl; have hcz11_1 : w9.cell? ⟨gb119, 1, none⟩ = some (.slice A0_1 l0_1.length c0_1) := (blk_cell BK119.out 1).trans rfl; have hcz11_2 : w9.cell? ⟨gb119, 2, none⟩ = some (.int .i64 a0_2) := (blk_cell BK119.out 2).trans rfl; have hfz11_0 := blk_frozen BK119.out 0; have hfz11_1 := blk_frozen BK119.out 1; have hfz11_2 := blk_frozen BK119.out 2; have hcz12_0 : w9.cell? ⟨gb120, 0, none⟩ = some (.slice A1_0 l1_0.length c1_0) := (blk_cell BK120.out 0).trans rfl; have hcz12_1 : w9.cell? ⟨gb120, 1, none⟩ = some (.slice A1_1 l1_1.length c1_1) := (blk_cell BK120.out 1).trans rfl; have hcz12_2 : w9.cell? ⟨gb120, 2, none⟩ = some (.int .i64 a1_2) := (blk_cell BK120.out 2).trans rfl; have hfz12_0 := blk_frozen BK120.out 0; have hfz12_1 := blk_frozen BK120.out 1; have hfz12_2 := blk_frozen BK120.out 2) | ((with_reducible refine gate_callee (f := 55) rfl ?_); refine goesL_ (some 9) rfl rfl Try.func55 (by kernel_rfl) rfl #[.slice A0_0 l0_0.length c0_0, .slice A1_0 l1_0.length c1_0] rfl (by (try simp only [List.map_toArray, List.map_cons, List.map_nil]); first | done | rfl | (simp only [List.length_drop, List.length_take]; rfl)) ?_; (with_reducible refine (laws_eqVolS.calls k _ _ l0_0 _ _ l1_0 true _ ?side1 ?side2 ?side3 ?side4 A3.out).mono ?_); (case side1 => repeat (first | exact (Kd.C_below HR0_0.out HB.out) | (with_reducible refine Kd.C_alloc ?_ _) | (with_reducible refine Kd.C_drewN ?_ _) | (with_reducible refine Kd.C_drew ?_))); (case side2 => exact HC0_0.out); (case side3 => repeat (first | exact (Kd.C_below HR1_0.out HB.out) | (with_reducible refine Kd.C_alloc ?_ _) | (with_reducible refine Kd.C_drewN ?_ _) | (with_reducible refine Kd.C_drew ?_))); (case side4 => exact HC1_0.out); rintro e w13 ⟨rfl, hb⟩; refine ⟨_, rfl, ?_⟩; have n0_ := Aside0.mk (blk_below (g := gb119) (o := .cells #[.slice A0_0 l0_0.length c0_0, .slice A0_1 l0_1.length c0_1, .int .i64 a0_2] 27 (0, 0)) (by (with_reducible repeat (first | refine blk_drewN ?_ _ | refine blk_drew ?_ | refine blk_alloc ?_ _)); exact BK119.out) hb); have n1_ := Aside0.mk (blk_below (g := gb120) (o := .cells #[.slice A1_0 l1_0.length c1_0, .slice A1_1 l1_1.length c1_1, .int .i64 a1_2] 27 (0, 0)) (by (with_reducible repeat (first | refine blk_drewN ?_ _ | refine blk_drew ?_ | refine blk_alloc ?_ _)); exact BK120.out) hb); have n2_ := Aside0.mk (below_step (by repeat (first | (with_reducible first | exact HB.out | apply below_alloc | apply pw_below_drewN | apply below_drew1 | refine below_set ?_ GE119.out | refine below_set ?_ GE120.out) | exact HB.out)) hb); clear BK119; clear BK120; clear HB; have BK119 := n0_; have BK120 := n1_; have HB := n2_; clear n0_ n1_ n2_; (try clear hb); (try clear hb2); (try clear hk); (try clear hi); have hcz14_0 : w13.cell? ⟨gb119, 0, none⟩ = some (.slice A0_0 l0_0.length c0_0) := (blk_cell BK119.out 0).trans rfl; have hcz14_1 : w13.cell? ⟨gb119, 1, none⟩ = some (.slice A0_1 l0_1.length c0_1) := (blk_cell BK119.out 1).trans rfl; have hcz14_2 : w13.cell? ⟨gb119, 2, none⟩ = some (.int .i64 a0_2) := (blk_cell BK119.out 2).trans rfl; have hfz14_0 := blk_frozen BK119.out 0; have hfz14_1 := blk_frozen BK119.out 1; have hfz14_2 := blk_frozen BK119.out 2; have hcz15_0 : w13.cell? ⟨gb120, 0, none⟩ = some (.slice A1_0 l1_0.length c1_0) := (blk_cell BK120.out 0).trans rfl; have hcz15_1 : w13.cell? ⟨gb120, 1, none⟩ = some (.slice A1_1 l1_1.length c1_1) := (blk_cell BK120.out 1).trans rfl; have hcz15_2 : w13.cell? ⟨gb120, 2, none⟩ = some (.int .i64 a1_2) := (blk_cell BK120.out 2).trans rfl; have hfz15_0 := blk_frozen BK120.out 0; have hfz15_1 := blk_frozen BK120.out 1; have hfz15_2 := blk_frozen BK120.out 2) | ((with_reducible refine gate_callee (f := 27) rfl ?_); refine goesL_ (some 15) rfl rfl Try.func27 (by kernel_rfl) rfl #[.agg #[.slice A0_1 l0_1.length c0_1], .agg #[.slice A1_1 l1_1.length c1_1]] rfl (by (try simp only [List.map_toArray, List.map_cons, List.map_nil]); first | done | rfl | (simp only [List.length_drop, List.length_take]; rfl)) ?_; (with_reducible refine (laws_eqArena.calls k _ _ l0_1 _ _ l1_1 true _ ?side1 ?side2 ?side3 ?side4 A5.out).mono ?_); (case side1 => repeat (first | exact (Kd.C_below HR0_1.out HB.out) | (with_reducible refine Kd.C_alloc ?_ _) | (with_reducible refine Kd.C_drewN ?_ _) | (with_reducible refine Kd.C_drew ?_))); (case side2 => exact HC0_1.out); (case side3 => repeat (first | exact (Kd.C_below HR1_1.out HB.out) | (with_reducible refine Kd.C_alloc ?_ _) | (with_reducible refine Kd.C_drewN ?_ _) | (with_reducible refine Kd.C_drew ?_))); (case side4 => exact HC1_1.out); rintro e w16 ⟨rfl, hb⟩; refine ⟨_, rfl, ?_⟩; have n0_ := Aside0.mk (blk_below (g := gb119) (o := .cells #[.slice A0_0 l0_0.length c0_0, .slice A0_1 l0_1.length c0_1, .int .i64 a0_2] 27 (0, 0)) (by (with_reducible repeat (first | refine blk_drewN ?_ _ | refine blk_drew ?_ | refine blk_alloc ?_ _)); exact BK119.out) hb); have n1_ := Aside0.mk (blk_below (g := gb120) (o := .cells #[.slice A1_0 l1_0.length c1_0, .slice A1_1 l1_1.length c1_1, .int .i64 a1_2] 27 (0, 0)) (by (with_reducible repeat (first | refine blk_drewN ?_ _ | refine blk_drew ?_ | refine blk_alloc ?_ _)); exact BK120.out) hb); have n2_ := Aside0.mk (below_step (by repeat (first | (with_reducible first | exact HB.out | apply below_alloc | apply pw_below_drewN | apply below_drew1 | refine below_set ?_ GE119.out | refine below_set ?_ GE120.out) | exact HB.out)) hb); clear BK119; clear BK120; clear HB; have BK119 := n0_; have BK120 := n1_; have HB := n2_; clear n0_ n1_ n2_; (try clear hb); (try clear hb2); (try clear hk); (try clear hi); have hcz17_0 : w16.cell? ⟨gb119, 0, none⟩ = some (.slice A0_0 l0_0.length c0_0) := (blk_cell BK119.out 0).trans rfl; have hcz17_1 : w16.cell? ⟨gb119, 1, none⟩ = some (.slice A0_1 l0_1.length c0_1) := (blk_cell BK119.out 1).trans rfl; have hcz17_2 : w16.cell? ⟨gb119, 2, none⟩ = some (.int .i64 a0_2) := (blk_cell BK119.out 2).trans rfl; have hfz17_0 := blk_frozen BK119.out 0; have hfz17_1 := blk_frozen BK119.out 1; have hfz17_2 := blk_frozen BK119.out 2; have hcz18_0 : w16.cell? ⟨gb120, 0, none⟩ = some (.slice A1_0 l1_0.length c1_0) := (blk_cell BK120.out 0).trans rfl; have hcz18_1 : w16.cell? ⟨gb120, 1, none⟩ = some (.slice A1_1 l1_1.length c1_1) := (blk_cell BK120.out 1).trans rfl; have hcz18_2 : w16.cell? ⟨gb120, 2, none⟩ = some (.int .i64 a1_2) := (blk_cell BK120.out 2).trans rfl; have hfz18_0 := blk_frozen BK120.out 0; have hfz18_1 := blk_frozen BK120.out 1; have hfz18_2 := blk_frozen BK120.out 2))
        go_ret
        exact ⟨by first | rfl | (simp [errW_none, errW_some] <;> rfl) | (simp [*, errW_none, errW_some] <;> rfl), by repeat (first | (with_reducible first | exact HB.out | apply below_alloc | apply pw_below_drewN | apply below_drew1 | refine below_set ?_ GE119.out | refine below_set ?_ GE120.out) | exact HB.out)⟩
      · rw [if_neg c7] at H
        have c7b0 : (a0_2 == a1_2) = false := beq_eq_false_iff_ne.mpr c7
        have c7b1 : (a0_2 != a1_2) = true := bne_iff_ne.mpr c7
        obtain rfl := Option.some.inj H
        go_enter Try.func12, Try.ntmps12
        go_wp2_with (first | ((with_reducible refine gate_dst (N := 2) rfl ?_); refine box_event ?hg (N := 2) ?hd (cs := #[.slice A0_0 l0_0.length c0_0, .slice A0_1 l0_1.length c0_1, .int .i64 a0_2]) (t := 27) ?hr ?_; (case hd => rfl); (case hg => rfl); (case hr => first | (go_simp; done) | (go_simp; rfl)); intro gb119 hg w19 hbox hb; have n0_ := Aside0.mk (below_step (by repeat (first | (with_reducible first | exact HB.out | apply below_alloc | apply pw_below_drewN | apply below_drew1) | exact HB.out)) hb); have n1_ := Aside0.mk (hbox); have n2_ := Aside0.mk ((by rw [hg]; exact (below_size (by repeat (first | (with_reducible first | exact HB.out | apply below_alloc | apply pw_below_drewN | apply below_drew1) | exact HB.out))) : w.heap.size ≤ gb119)); have n3_ := Aside0.mk ((by rw [hg]; exact (below_size (by repeat (first | (with_reducible first | exact HB.out | apply below_alloc | apply pw_below_drewN | apply below_drew1) | exact HB.out))) : w.heap.size ≤ gb119)); clear HB; have HB := n0_; have BK119 := n1_; have GW119 := n2_; have GE119 := n3_; clear n0_ n1_ n2_ n3_; clear hb hbox hg) | ((with_reducible refine gate_dst (N := 3) rfl ?_); refine box_event ?hg (N := 3) ?hd (cs := #[.slice A1_0 l1_0.length c1_0, .slice A1_1 l1_1.length c1_1, .int .i64 a1_2]) (t := 27) ?hr ?_; (case hd => rfl); (case hg => rfl); (case hr => first | (go_simp; done) | (go_simp; rfl)); intro gb120 hg w20 hbox hb; have n0_ := Aside0.mk (blk_below (g := gb119) (o := .cells #[.slice A0_0 l0_0.length c0_0, .slice A0_1 l0_1.length c0_1, .int .i64 a0_2] 27 (0, 0)) (by (with_reducible repeat (first | refine blk_drewN ?_ _ | refine blk_drew ?_ | refine blk_alloc ?_ _)); exact BK119.out) hb); have n1_ := Aside0.mk (below_step (by repeat (first | (with_reducible first | exact HB.out | apply below_alloc | apply pw_below_drewN | apply below_drew1 | refine below_set ?_ GE119.out) | exact HB.out)) hb); have n2_ := Aside0.mk (hbox); have n3_ := Aside0.mk ((by rw [hg]; exact (below_size (by repeat (first | (with_reducible first | exact HB.out | apply below_alloc | apply pw_below_drewN | apply below_drew1 | refine below_set ?_ GE119.out) | exact HB.out))) : w.heap.size ≤ gb120)); have n4_ := Aside0.mk ((by rw [hg]; exact (below_size (by repeat (first | (with_reducible first | exact HB.out | apply below_alloc | apply pw_below_drewN | apply below_drew1 | refine below_set ?_ GE119.out) | exact HB.out))) : w.heap.size ≤ gb120)); have n5_ := Aside0.mk ((by rw [hg]; exact Nat.ne_of_lt (blk_lt (g := gb119) (o := .cells #[.slice A0_0 l0_0.length c0_0, .slice A0_1 l0_1.length c0_1, .int .i64 a0_2] 27 (0, 0)) (by (with_reducible repeat (first | refine blk_drewN ?_ _ | refine blk_drew ?_ | refine blk_alloc ?_ _)); exact BK119.out)) : gb119 ≠ gb120)); have n6_ := Aside0.mk ((by rw [hg]; exact Nat.ne_of_gt (blk_lt (g := gb119) (o := .cells #[.slice A0_0 l0_0.length c0_0, .slice A0_1 l0_1.length c0_1, .int .i64 a0_2] 27 (0, 0)) (by (with_reducible repeat (first | refine blk_drewN ?_ _ | refine blk_drew ?_ | refine blk_alloc ?_ _)); exact BK119.out)) : gb120 ≠ gb119)); clear BK119; clear HB; have BK119 := n0_; have HB := n1_; have BK120 := n2_; have GW120 := n3_; have GE120 := n4_; have NB119_120 := n5_; have NB120_119 := n6_; clear n0_ n1_ n2_ n3_ n4_ n5_ n6_; clear hb hbox hg; have hnb21 := NB119_120.out; have hnc21 := NB120_119.out; have hcz22_0 : w20.cell? ⟨gb119, 0, none⟩ = some (.slice A0_0 l0_0.length c0_0) := (blk_cell BK119.out 0).trans rfl; have hcz22_1 : w20.cell? ⟨gb119, 1, none⟩ = some (.slice A0_1 l0_1.length c0_1) := (blk_cell BK119.out 1).trans rfl; have hcz22_2 : w20.cell? ⟨gb119, 2, none⟩ = some (.int .i64 a0_2) := (blk_cell BK119.out 2).trans rfl; have hfz22_0 := blk_frozen BK119.out 0; have hfz22_1 := blk_frozen BK119.out 1; have hfz22_2 := blk_frozen BK119.out 2; have hcz23_0 : w20.cell? ⟨gb120, 0, none⟩ = some (.slice A1_0 l1_0.length c1_0) := (blk_cell BK120.out 0).trans rfl; have hcz23_1 : w20.cell? ⟨gb120, 1, none⟩ = some (.slice A1_1 l1_1.length c1_1) := (blk_cell BK120.out 1).trans rfl; have hcz23_2 : w20.cell? ⟨gb120, 2, none⟩ = some (.int .i64 a1_2) := (blk_cell BK120.out 2).trans rfl; have hfz23_0 := blk_frozen BK120.out 0; have hfz23_1 := blk_frozen BK120.out 1; have hfz23_2 := blk_frozen BK120.out 2) | ((with_reducible refine gate_callee (f := 55) rfl ?_); refine goesL_ (some 9) rfl rfl Try.func55 (by kernel_rfl) rfl #[.slice A0_0 l0_0.length c0_0, .slice A1_0 l1_0.length c1_0] rfl (by (try simp only [List.map_toArray, List.map_cons, List.map_nil]); first | done | rfl | (simp only [List.length_drop, List.length_take]; rfl)) ?_; (with_reducible refine (laws_eqVolS.calls k _ _ l0_0 _ _ l1_0 true _ ?side1 ?side2 ?side3 ?side4 A3.out).mono ?_); (case side1 => repeat (first | exact (Kd.C_below HR0_0.out HB.out) | (with_reducible refine Kd.C_alloc ?_ _) | (with_reducible refine Kd.C_drewN ?_ _) | (with_reducible refine Kd.C_drew ?_))); (case side2 => exact HC0_0.out); (case side3 => repeat (first | exact (Kd.C_below HR1_0.out HB.out) | (with_reducible refine Kd.C_alloc ?_ _) | (with_reducible refine Kd.C_drewN ?_ _) | (with_reducible refine Kd.C_drew ?_))); (case side4 => exact HC1_0.out); rintro e w24 ⟨rfl, hb⟩; refine ⟨_, rfl, ?_⟩; have n0_ := Aside0.mk (blk_below (g := gb119) (o := .cells #[.slice A0_0 l0_0.length c0_0, .slice A0_1 l0_1.length c0_1, .int .i64 a0_2] 27 (0, 0)) (by (with_reducible repeat (first | refine blk_drewN ?_ _ | refine blk_drew ?_ | refine blk_alloc ?_ _)); exact BK119.out) hb); have n1_ := Aside0.mk (blk_below (g := gb120) (o := .cells #[.slice A1_0 l1_0.length c1_0, .slice A1_1 l1_1.length c1_1, .int .i64 a1_2] 27 (0, 0)) (by (with_reducible repeat (first | refine blk_drewN ?_ _ | refine blk_drew ?_ | refine blk_alloc ?_ _)); exact BK120.out) hb); have n2_ := Aside0.mk (below_step (by repeat (first | (with_reducible first | exact HB.out | apply below_alloc | apply pw_below_drewN | apply below_drew1 | refine below_set ?_ GE119.out | refine below_set ?_ GE120.out) | exact HB.out)) hb); clear BK119; clear BK120; clear HB; have BK119 := n0_; have BK120 := n1_; have HB := n2_; clear n0_ n1_ n2_; (try clear hb); (try clear hb2); (try clear hk); (try clear hi); have hcz25_0 : w24.cell? ⟨gb119, 0, none⟩ = some (.slice A0_0 l0_0.length c0_0) := (blk_cell BK119.out 0).trans rfl; have hcz25_1 : w24.cell? ⟨gb119, 1, none⟩ = some (.slice A0_1 l0_1.length c0_1) := (blk_cell BK119.out 1).trans rfl; have hcz25_2 : w24.cell? ⟨gb119, 2, none⟩ = some (.int .i64 a0_2) := (blk_cell BK119.out 2).trans rfl; have hfz25_0 := blk_frozen BK119.out 0; have hfz25_1 := blk_frozen BK119.out 1; have hfz25_2 := blk_frozen BK119.out 2; have hcz26_0 : w24.cell? ⟨gb120, 0, none⟩ = some (.slice A1_0 l1_0.length c1_0) := (blk_cell BK120.out 0).trans rfl; have hcz26_1 : w24.cell? ⟨gb120, 1, none⟩ = some (.slice A1_1 l1_1.length c1_1) := (blk_cell BK120.out 1).trans rfl; have hcz26_2 : w24.cell? ⟨gb120, 2, none⟩ = some (.int .i64 a1_2) := (blk_cell BK120.out 2).trans rfl; have hfz26_0 := blk_frozen BK120.out 0; have hfz26_1 := blk_frozen BK120.out 1; have hfz26_2 := blk_frozen BK120.out 2) | ((with_reducible refine gate_callee (f := 27) rfl ?_); refine goesL_ (some 15) rfl rfl Try.func27 (by kernel_rfl) rfl #[.agg #[.slice A0_1 l0_1.length c0_1], .agg #[.slice A1_1 l1_1.length c1_1]] rfl (by (try simp only [List.map_toArray, List.map_cons, List.map_nil]); first | done | rfl | (simp only [List.length_drop, List.length_take]; rfl)) ?_; (with_reducible refine (laws_eqArena.calls k _ _ l0_1 _ _ l1_1 true _ ?side1 ?side2 ?side3 ?side4 A5.out).mono ?_); (case side1 => repeat (first | exact (Kd.C_below HR0_1.out HB.out) | (with_reducible refine Kd.C_alloc ?_ _) | (with_reducible refine Kd.C_drewN ?_ _) | (with_reducible refine Kd.C_drew ?_))); (case side2 => exact HC0_1.out); (case side3 => repeat (first | exact (Kd.C_below HR1_1.out HB.out) | (with_reducible refine Kd.C_alloc ?_ _) | (with_reducible refine Kd.C_drewN ?_ _) | (with_reducible refine Kd.C_drew ?_))); (case side4 => exact HC1_1.out); rintro e w27 ⟨rfl, hb⟩; refine ⟨_, rfl, ?_⟩; have n0_ := Aside0.mk (blk_below (g := gb119) (o := .cells #[.slice A0_0 l0_0.length c0_0, .slice A0_1 l0_1.length c0_1, .int .i64 a0_2] 27 (0, 0)) (by (with_reducible repeat (first | refine blk_drewN ?_ _ | refine blk_drew ?_ | refine blk_alloc ?_ _)); exact BK119.out) hb); have n1_ := Aside0.mk (blk_below (g := gb120) (o := .cells #[.slice A1_0 l1_0.length c1_0, .slice A1_1 l1_1.length c1_1, .int .i64 a1_2] 27 (0, 0)) (by (with_reducible repeat (first | refine blk_drewN ?_ _ | refine blk_drew ?_ | refine blk_alloc ?_ _)); exact BK120.out) hb); have n2_ := Aside0.mk (below_step (by repeat (first | (with_reducible first | exact HB.out | apply below_alloc | apply pw_below_drewN | apply below_drew1 | refine below_set ?_ GE119.out | refine below_set ?_ GE120.out) | exact HB.out)) hb); clear BK119; clear BK120; clear HB; have BK119 := n0_; have BK120 := n1_; have HB := n2_; clear n0_ n1_ n2_; (try clear hb); (try clear hb2); (try clear hk); (try clear hi); have hcz28_0 : w27.cell? ⟨gb119, 0, none⟩ = some (.slice A0_0 l0_0.length c0_0) := (blk_cell BK119.out 0).trans rfl; have hcz28_1 : w27.cell? ⟨gb119, 1, none⟩ = some (.slice A0_1 l0_1.length c0_1) := (blk_cell BK119.out 1).trans rfl; have hcz28_2 : w27.cell? ⟨gb119, 2, none⟩ = some (.int .i64 a0_2) := (blk_cell BK119.out 2).trans rfl; have hfz28_0 := blk_frozen BK119.out 0; have hfz28_1 := blk_frozen BK119.out 1; have hfz28_2 := blk_frozen BK119.out 2; have hcz29_0 : w27.cell? ⟨gb120, 0, none⟩ = some (.slice A1_0 l1_0.length c1_0) := (blk_cell BK120.out 0).trans rfl; have hcz29_1 : w27.cell? ⟨gb120, 1, none⟩ = some (.slice A1_1 l1_1.length c1_1) := (blk_cell BK120.out 1).trans rfl; have hcz29_2 : w27.cell? ⟨gb120, 2, none⟩ = some (.int .i64 a1_2) := (blk_cell BK120.out 2).trans rfl; have hfz29_0 := blk_frozen BK120.out 0; have hfz29_1 := blk_frozen BK120.out 1; have hfz29_2 := blk_frozen BK120.out 2))
        go_ret
        exact ⟨by first | rfl | (simp [errW_none, errW_some] <;> rfl) | (simp [*, errW_none, errW_some] <;> rfl), by repeat (first | (with_reducible first | exact HB.out | apply below_alloc | apply pw_below_drewN | apply below_drew1 | refine below_set ?_ GE119.out | refine below_set ?_ GE120.out) | exact HB.out)⟩
    · replace c6 := Bool.eq_false_iff.mpr c6
      subst c6
      have H1 : (some false) = some r := by rw [if_neg (show ¬ (false = true) by decide)] at H; exact H
      clear H
      have H := H1
      clear H1
      obtain rfl := Option.some.inj H
      go_enter Try.func12, Try.ntmps12
      go_wp2_with (first | ((with_reducible refine gate_dst (N := 2) rfl ?_); refine box_event ?hg (N := 2) ?hd (cs := #[.slice A0_0 l0_0.length c0_0, .slice A0_1 l0_1.length c0_1, .int .i64 a0_2]) (t := 27) ?hr ?_; (case hd => rfl); (case hg => rfl); (case hr => first | (go_simp; done) | (go_simp; rfl)); intro gb119 hg w30 hbox hb; have n0_ := Aside0.mk (below_step (by repeat (first | (with_reducible first | exact HB.out | apply below_alloc | apply pw_below_drewN | apply below_drew1) | exact HB.out)) hb); have n1_ := Aside0.mk (hbox); have n2_ := Aside0.mk ((by rw [hg]; exact (below_size (by repeat (first | (with_reducible first | exact HB.out | apply below_alloc | apply pw_below_drewN | apply below_drew1) | exact HB.out))) : w.heap.size ≤ gb119)); have n3_ := Aside0.mk ((by rw [hg]; exact (below_size (by repeat (first | (with_reducible first | exact HB.out | apply below_alloc | apply pw_below_drewN | apply below_drew1) | exact HB.out))) : w.heap.size ≤ gb119)); clear HB; have HB := n0_; have BK119 := n1_; have GW119 := n2_; have GE119 := n3_; clear n0_ n1_ n2_ n3_; clear hb hbox hg) | ((with_reducible refine gate_dst (N := 3) rfl ?_); refine box_event ?hg (N := 3) ?hd (cs := #[.slice A1_0 l1_0.length c1_0, .slice A1_1 l1_1.length c1_1, .int .i64 a1_2]) (t := 27) ?hr ?_; (case hd => rfl); (case hg => rfl); (case hr => first | (go_simp; done) | (go_simp; rfl)); intro gb120 hg w31 hbox hb; have n0_ := Aside0.mk (blk_below (g := gb119) (o := .cells #[.slice A0_0 l0_0.length c0_0, .slice A0_1 l0_1.length c0_1, .int .i64 a0_2] 27 (0, 0)) (by (with_reducible repeat (first | refine blk_drewN ?_ _ | refine blk_drew ?_ | refine blk_alloc ?_ _)); exact BK119.out) hb); have n1_ := Aside0.mk (below_step (by repeat (first | (with_reducible first | exact HB.out | apply below_alloc | apply pw_below_drewN | apply below_drew1 | refine below_set ?_ GE119.out) | exact HB.out)) hb); have n2_ := Aside0.mk (hbox); have n3_ := Aside0.mk ((by rw [hg]; exact (below_size (by repeat (first | (with_reducible first | exact HB.out | apply below_alloc | apply pw_below_drewN | apply below_drew1 | refine below_set ?_ GE119.out) | exact HB.out))) : w.heap.size ≤ gb120)); have n4_ := Aside0.mk ((by rw [hg]; exact (below_size (by repeat (first | (with_reducible first | exact HB.out | apply below_alloc | apply pw_below_drewN | apply below_drew1 | refine below_set ?_ GE119.out) | exact HB.out))) : w.heap.size ≤ gb120)); have n5_ := Aside0.mk ((by rw [hg]; exact Nat.ne_of_lt (blk_lt (g := gb119) (o := .cells #[.slice A0_0 l0_0.length c0_0, .slice A0_1 l0_1.length c0_1, .int .i64 a0_2] 27 (0, 0)) (by (with_reducible repeat (first | refine blk_drewN ?_ _ | refine blk_drew ?_ | refine blk_alloc ?_ _)); exact BK119.out)) : gb119 ≠ gb120)); have n6_ := Aside0.mk ((by rw [hg]; exact Nat.ne_of_gt (blk_lt (g := gb119) (o := .cells #[.slice A0_0 l0_0.length c0_0, .slice A0_1 l0_1.length c0_1, .int .i64 a0_2] 27 (0, 0)) (by (with_reducible repeat (first | refine blk_drewN ?_ _ | refine blk_drew ?_ | refine blk_alloc ?_ _)); exact BK119.out)) : gb120 ≠ gb119)); clear BK119; clear HB; have BK119 := n0_; have HB := n1_; have BK120 := n2_; have GW120 := n3_; have GE120 := n4_; have NB119_120 := n5_; have NB120_119 := n6_; clear n0_ n1_ n2_ n3_ n4_ n5_ n6_; clear hb hbox hg; have hnb32 := NB119_120.out; have hnc32 := NB120_119.out; have hcz33_0 : w31.cell? ⟨gb119, 0, none⟩ = some (.slice A0_0 l0_0.length c0_0) := (blk_cell BK119.out 0).trans rfl; have hcz33_1 : w31.cell? ⟨gb119, 1, none⟩ = some (.slice A0_1 l0_1.length c0_1) := (blk_cell BK119.out 1).trans rfl; have hcz33_2 : w31.cell? ⟨gb119, 2, none⟩ = some (.int .i64 a0_2) := (blk_cell BK119.out 2).trans rfl; have hfz33_0 := blk_frozen BK119.out 0; have hfz33_1 := blk_frozen BK119.out 1; have hfz33_2 := blk_frozen BK119.out 2; have hcz34_0 : w31.cell? ⟨gb120, 0, none⟩ = some (.slice A1_0 l1_0.length c1_0) := (blk_cell BK120.out 0).trans rfl; have hcz34_1 : w31.cell? ⟨gb120, 1, none⟩ = some (.slice A1_1 l1_1.length c1_1) := (blk_cell BK120.out 1).trans rfl; have hcz34_2 : w31.cell? ⟨gb120, 2, none⟩ = some (.int .i64 a1_2) := (blk_cell BK120.out 2).trans rfl; have hfz34_0 := blk_frozen BK120.out 0; have hfz34_1 := blk_frozen BK120.out 1; have hfz34_2 := blk_frozen BK120.out 2) | ((with_reducible refine gate_callee (f := 55) rfl ?_); refine goesL_ (some 9) rfl rfl Try.func55 (by kernel_rfl) rfl #[.slice A0_0 l0_0.length c0_0, .slice A1_0 l1_0.length c1_0] rfl (by (try simp only [List.map_toArray, List.map_cons, List.map_nil]); first | done | rfl | (simp only [List.length_drop, List.length_take]; rfl)) ?_; (with_reducible refine (laws_eqVolS.calls k _ _ l0_0 _ _ l1_0 true _ ?side1 ?side2 ?side3 ?side4 A3.out).mono ?_); (case side1 => repeat (first | exact (Kd.C_below HR0_0.out HB.out) | (with_reducible refine Kd.C_alloc ?_ _) | (with_reducible refine Kd.C_drewN ?_ _) | (with_reducible refine Kd.C_drew ?_))); (case side2 => exact HC0_0.out); (case side3 => repeat (first | exact (Kd.C_below HR1_0.out HB.out) | (with_reducible refine Kd.C_alloc ?_ _) | (with_reducible refine Kd.C_drewN ?_ _) | (with_reducible refine Kd.C_drew ?_))); (case side4 => exact HC1_0.out); rintro e w35 ⟨rfl, hb⟩; refine ⟨_, rfl, ?_⟩; have n0_ := Aside0.mk (blk_below (g := gb119) (o := .cells #[.slice A0_0 l0_0.length c0_0, .slice A0_1 l0_1.length c0_1, .int .i64 a0_2] 27 (0, 0)) (by (with_reducible repeat (first | refine blk_drewN ?_ _ | refine blk_drew ?_ | refine blk_alloc ?_ _)); exact BK119.out) hb); have n1_ := Aside0.mk (blk_below (g := gb120) (o := .cells #[.slice A1_0 l1_0.length c1_0, .slice A1_1 l1_1.length c1_1, .int .i64 a1_2] 27 (0, 0)) (by (with_reducible repeat (first | refine blk_drewN ?_ _ | refine blk_drew ?_ | refine blk_alloc ?_ _)); exact BK120.out) hb); have n2_ := Aside0.mk (below_step (by repeat (first | (with_reducible first | exact HB.out | apply below_alloc | apply pw_below_drewN | apply below_drew1 | refine below_set ?_ GE119.out | refine below_set ?_ GE120.out) | exact HB.out)) hb); clear BK119; clear BK120; clear HB; have BK119 := n0_; have BK120 := n1_; have HB := n2_; clear n0_ n1_ n2_; (try clear hb); (try clear hb2); (try clear hk); (try clear hi); have hcz36_0 : w35.cell? ⟨gb119, 0, none⟩ = some (.slice A0_0 l0_0.length c0_0) := (blk_cell BK119.out 0).trans rfl; have hcz36_1 : w35.cell? ⟨gb119, 1, none⟩ = some (.slice A0_1 l0_1.length c0_1) := (blk_cell BK119.out 1).trans rfl; have hcz36_2 : w35.cell? ⟨gb119, 2, none⟩ = some (.int .i64 a0_2) := (blk_cell BK119.out 2).trans rfl; have hfz36_0 := blk_frozen BK119.out 0; have hfz36_1 := blk_frozen BK119.out 1; have hfz36_2 := blk_frozen BK119.out 2; have hcz37_0 : w35.cell? ⟨gb120, 0, none⟩ = some (.slice A1_0 l1_0.length c1_0) := (blk_cell BK120.out 0).trans rfl; have hcz37_1 : w35.cell? ⟨gb120, 1, none⟩ = some (.slice A1_1 l1_1.length c1_1) := (blk_cell BK120.out 1).trans rfl; have hcz37_2 : w35.cell? ⟨gb120, 2, none⟩ = some (.int .i64 a1_2) := (blk_cell BK120.out 2).trans rfl; have hfz37_0 := blk_frozen BK120.out 0; have hfz37_1 := blk_frozen BK120.out 1; have hfz37_2 := blk_frozen BK120.out 2) | ((with_reducible refine gate_callee (f := 27) rfl ?_); refine goesL_ (some 15) rfl rfl Try.func27 (by kernel_rfl) rfl #[.agg #[.slice A0_1 l0_1.length c0_1], .agg #[.slice A1_1 l1_1.length c1_1]] rfl (by (try simp only [List.map_toArray, List.map_cons, List.map_nil]); first | done | rfl | (simp only [List.length_drop, List.length_take]; rfl)) ?_; (with_reducible refine (laws_eqArena.calls k _ _ l0_1 _ _ l1_1 false _ ?side1 ?side2 ?side3 ?side4 A5.out).mono ?_); (case side1 => repeat (first | exact (Kd.C_below HR0_1.out HB.out) | (with_reducible refine Kd.C_alloc ?_ _) | (with_reducible refine Kd.C_drewN ?_ _) | (with_reducible refine Kd.C_drew ?_))); (case side2 => exact HC0_1.out); (case side3 => repeat (first | exact (Kd.C_below HR1_1.out HB.out) | (with_reducible refine Kd.C_alloc ?_ _) | (with_reducible refine Kd.C_drewN ?_ _) | (with_reducible refine Kd.C_drew ?_))); (case side4 => exact HC1_1.out); rintro e w38 ⟨rfl, hb⟩; refine ⟨_, rfl, ?_⟩; have n0_ := Aside0.mk (blk_below (g := gb119) (o := .cells #[.slice A0_0 l0_0.length c0_0, .slice A0_1 l0_1.length c0_1, .int .i64 a0_2] 27 (0, 0)) (by (with_reducible repeat (first | refine blk_drewN ?_ _ | refine blk_drew ?_ | refine blk_alloc ?_ _)); exact BK119.out) hb); have n1_ := Aside0.mk (blk_below (g := gb120) (o := .cells #[.slice A1_0 l1_0.length c1_0, .slice A1_1 l1_1.length c1_1, .int .i64 a1_2] 27 (0, 0)) (by (with_reducible repeat (first | refine blk_drewN ?_ _ | refine blk_drew ?_ | refine blk_alloc ?_ _)); exact BK120.out) hb); have n2_ := Aside0.mk (below_step (by repeat (first | (with_reducible first | exact HB.out | apply below_alloc | apply pw_below_drewN | apply below_drew1 | refine below_set ?_ GE119.out | refine below_set ?_ GE120.out) | exact HB.out)) hb); clear BK119; clear BK120; clear HB; have BK119 := n0_; have BK120 := n1_; have HB := n2_; clear n0_ n1_ n2_; (try clear hb); (try clear hb2); (try clear hk); (try clear hi)))
      go_ret
      exact ⟨by first | rfl | (simp [errW_none, errW_some] <;> rfl) | (simp [*, errW_none, errW_some] <;> rfl), by repeat (first | (with_reducible first | exact HB.out | apply below_alloc | apply pw_below_drewN | apply below_drew1 | refine below_set ?_ GE119.out | refine below_set ?_ GE120.out) | exact HB.out)⟩
  · replace c4 := Bool.eq_false_iff.mpr c4
    subst c4
    have H1 : (some false) = some r := by rw [if_neg (show ¬ (false = true) by decide)] at H; exact H
    clear H
    have H := H1
    clear H1
    obtain rfl := Option.some.inj H
    go_enter Try.func12, Try.ntmps12
    go_wp2_with (first | ((with_reducible refine gate_dst (N := 2) rfl ?_); refine box_event ?hg (N := 2) ?hd (cs := #[.slice A0_0 l0_0.length c0_0, .slice A0_1 l0_1.length c0_1, .int .i64 a0_2]) (t := 27) ?hr ?_; (case hd => rfl); (case hg => rfl); (case hr => first | (go_simp; done) | (go_simp; rfl)); intro gb119 hg w39 hbox hb; have n0_ := Aside0.mk (below_step (by repeat (first | (with_reducible first | exact HB.out | apply below_alloc | apply pw_below_drewN | apply below_drew1) | exact HB.out)) hb); have n1_ := Aside0.mk (hbox); have n2_ := Aside0.mk ((by rw [hg]; exact (below_size (by repeat (first | (with_reducible first | exact HB.out | apply below_alloc | apply pw_below_drewN | apply below_drew1) | exact HB.out))) : w.heap.size ≤ gb119)); have n3_ := Aside0.mk ((by rw [hg]; exact (below_size (by repeat (first | (with_reducible first | exact HB.out | apply below_alloc | apply pw_below_drewN | apply below_drew1) | exact HB.out))) : w.heap.size ≤ gb119)); clear HB; have HB := n0_; have BK119 := n1_; have GW119 := n2_; have GE119 := n3_; clear n0_ n1_ n2_ n3_; clear hb hbox hg) | ((with_reducible refine gate_dst (N := 3) rfl ?_); refine box_event ?hg (N := 3) ?hd (cs := #[.slice A1_0 l1_0.length c1_0, .slice A1_1 l1_1.length c1_1, .int .i64 a1_2]) (t := 27) ?hr ?_; (case hd => rfl); (case hg => rfl); (case hr => first | (go_simp; done) | (go_simp; rfl)); intro gb120 hg w40 hbox hb; have n0_ := Aside0.mk (blk_below (g := gb119) (o := .cells #[.slice A0_0 l0_0.length c0_0, .slice A0_1 l0_1.length c0_1, .int .i64 a0_2] 27 (0, 0)) (by (with_reducible repeat (first | refine blk_drewN ?_ _ | refine blk_drew ?_ | refine blk_alloc ?_ _)); exact BK119.out) hb); have n1_ := Aside0.mk (below_step (by repeat (first | (with_reducible first | exact HB.out | apply below_alloc | apply pw_below_drewN | apply below_drew1 | refine below_set ?_ GE119.out) | exact HB.out)) hb); have n2_ := Aside0.mk (hbox); have n3_ := Aside0.mk ((by rw [hg]; exact (below_size (by repeat (first | (with_reducible first | exact HB.out | apply below_alloc | apply pw_below_drewN | apply below_drew1 | refine below_set ?_ GE119.out) | exact HB.out))) : w.heap.size ≤ gb120)); have n4_ := Aside0.mk ((by rw [hg]; exact (below_size (by repeat (first | (with_reducible first | exact HB.out | apply below_alloc | apply pw_below_drewN | apply below_drew1 | refine below_set ?_ GE119.out) | exact HB.out))) : w.heap.size ≤ gb120)); have n5_ := Aside0.mk ((by rw [hg]; exact Nat.ne_of_lt (blk_lt (g := gb119) (o := .cells #[.slice A0_0 l0_0.length c0_0, .slice A0_1 l0_1.length c0_1, .int .i64 a0_2] 27 (0, 0)) (by (with_reducible repeat (first | refine blk_drewN ?_ _ | refine blk_drew ?_ | refine blk_alloc ?_ _)); exact BK119.out)) : gb119 ≠ gb120)); have n6_ := Aside0.mk ((by rw [hg]; exact Nat.ne_of_gt (blk_lt (g := gb119) (o := .cells #[.slice A0_0 l0_0.length c0_0, .slice A0_1 l0_1.length c0_1, .int .i64 a0_2] 27 (0, 0)) (by (with_reducible repeat (first | refine blk_drewN ?_ _ | refine blk_drew ?_ | refine blk_alloc ?_ _)); exact BK119.out)) : gb120 ≠ gb119)); clear BK119; clear HB; have BK119 := n0_; have HB := n1_; have BK120 := n2_; have GW120 := n3_; have GE120 := n4_; have NB119_120 := n5_; have NB120_119 := n6_; clear n0_ n1_ n2_ n3_ n4_ n5_ n6_; clear hb hbox hg; have hnb41 := NB119_120.out; have hnc41 := NB120_119.out; have hcz42_0 : w40.cell? ⟨gb119, 0, none⟩ = some (.slice A0_0 l0_0.length c0_0) := (blk_cell BK119.out 0).trans rfl; have hcz42_1 : w40.cell? ⟨gb119, 1, none⟩ = some (.slice A0_1 l0_1.length c0_1) := (blk_cell BK119.out 1).trans rfl; have hcz42_2 : w40.cell? ⟨gb119, 2, none⟩ = some (.int .i64 a0_2) := (blk_cell BK119.out 2).trans rfl; have hfz42_0 := blk_frozen BK119.out 0; have hfz42_1 := blk_frozen BK119.out 1; have hfz42_2 := blk_frozen BK119.out 2; have hcz43_0 : w40.cell? ⟨gb120, 0, none⟩ = some (.slice A1_0 l1_0.length c1_0) := (blk_cell BK120.out 0).trans rfl; have hcz43_1 : w40.cell? ⟨gb120, 1, none⟩ = some (.slice A1_1 l1_1.length c1_1) := (blk_cell BK120.out 1).trans rfl; have hcz43_2 : w40.cell? ⟨gb120, 2, none⟩ = some (.int .i64 a1_2) := (blk_cell BK120.out 2).trans rfl; have hfz43_0 := blk_frozen BK120.out 0; have hfz43_1 := blk_frozen BK120.out 1; have hfz43_2 := blk_frozen BK120.out 2) | ((with_reducible refine gate_callee (f := 55) rfl ?_); refine goesL_ (some 9) rfl rfl Try.func55 (by kernel_rfl) rfl #[.slice A0_0 l0_0.length c0_0, .slice A1_0 l1_0.length c1_0] rfl (by (try simp only [List.map_toArray, List.map_cons, List.map_nil]); first | done | rfl | (simp only [List.length_drop, List.length_take]; rfl)) ?_; (with_reducible refine (laws_eqVolS.calls k _ _ l0_0 _ _ l1_0 false _ ?side1 ?side2 ?side3 ?side4 A3.out).mono ?_); (case side1 => repeat (first | exact (Kd.C_below HR0_0.out HB.out) | (with_reducible refine Kd.C_alloc ?_ _) | (with_reducible refine Kd.C_drewN ?_ _) | (with_reducible refine Kd.C_drew ?_))); (case side2 => exact HC0_0.out); (case side3 => repeat (first | exact (Kd.C_below HR1_0.out HB.out) | (with_reducible refine Kd.C_alloc ?_ _) | (with_reducible refine Kd.C_drewN ?_ _) | (with_reducible refine Kd.C_drew ?_))); (case side4 => exact HC1_0.out); rintro e w44 ⟨rfl, hb⟩; refine ⟨_, rfl, ?_⟩; have n0_ := Aside0.mk (blk_below (g := gb119) (o := .cells #[.slice A0_0 l0_0.length c0_0, .slice A0_1 l0_1.length c0_1, .int .i64 a0_2] 27 (0, 0)) (by (with_reducible repeat (first | refine blk_drewN ?_ _ | refine blk_drew ?_ | refine blk_alloc ?_ _)); exact BK119.out) hb); have n1_ := Aside0.mk (blk_below (g := gb120) (o := .cells #[.slice A1_0 l1_0.length c1_0, .slice A1_1 l1_1.length c1_1, .int .i64 a1_2] 27 (0, 0)) (by (with_reducible repeat (first | refine blk_drewN ?_ _ | refine blk_drew ?_ | refine blk_alloc ?_ _)); exact BK120.out) hb); have n2_ := Aside0.mk (below_step (by repeat (first | (with_reducible first | exact HB.out | apply below_alloc | apply pw_below_drewN | apply below_drew1 | refine below_set ?_ GE119.out | refine below_set ?_ GE120.out) | exact HB.out)) hb); clear BK119; clear BK120; clear HB; have BK119 := n0_; have BK120 := n1_; have HB := n2_; clear n0_ n1_ n2_; (try clear hb); (try clear hb2); (try clear hk); (try clear hi)))
    go_ret
    exact ⟨by first | rfl | (simp [errW_none, errW_some] <;> rfl) | (simp [*, errW_none, errW_some] <;> rfl), by repeat (first | (with_reducible first | exact HB.out | apply below_alloc | apply pw_below_drewN | apply below_drew1 | refine below_set ?_ GE119.out | refine below_set ?_ GE120.out) | exact HB.out)⟩

end Go.Proofs.Ytijbejiajaiciaa.PC

/- laws_FnExactStoreNew: the call comes to just what its Lean function answers; what it hands to what writes it lies apart from all else. Printed by a program of this session. -/
namespace Go.Proofs.Ytijbejiajaiciaa.PC
open Go.RowKit Go.Proofs.YtijbejiajaiciaaW.PrintWords Go.Proofs.YtijbejiajaiciaaW.PrintLast Go.Proofs.YtijbejiajaiciaaW.PrintMore
attribute [local go_sem] max2_int min2_int max_two min_two max_three min_three max_four min_four
set_option linter.unusedVariables false
set_option linter.unusedSimpArgs false
def laws_FnExactStoreNew.f (k : Nat) : Option (Bool) := ((spec_StoreNew.f).bind fun b0 => ((impl_StoreNew.f).bind fun b1 => ((laws_eqStore.f k b1.1 b1.2.1 b1.2.2 b0.1 b0.2.1 b0.2.2).bind fun t16 => (if t16 = true then ((laws_markStore.f k b1.1 b1.2.1 b1.2.2 1).bind fun b4 => ((laws_heldStore.f k b4.2.1 b4.2.2 b1.2.2 1).bind fun t22 => (if t22 < 0 then (some false) else (if t22 = b4.1 then ((impl_StoreNew.f).bind fun b8 => ((laws_eqStore.f k b8.1 b8.2.1 b8.2.2 b0.1 b0.2.1 b0.2.2).bind fun t31 => (if t31 = true then ((laws_heldStore.f k b4.2.1 b4.2.2 b1.2.2 1).bind fun t33 => (if t33 < 0 then (some false) else (if t33 = b4.1 then (some true) else (some false)))) else (some false)))) else (some false))))) else (some false)))))
theorem laws_FnExactStoreNew.mono : ∀ k, LeO (laws_FnExactStoreNew.f k ) (laws_FnExactStoreNew.f (k + 1) ) := by
  intro  k
  unfold laws_FnExactStoreNew.f
  repeat' first
      | (with_reducible exact laws_eqStore.mono _ _ _ _ _ _ _)
      | (with_reducible exact laws_heldStore.mono _ _ _ _ _)
      | (with_reducible exact laws_markStore.mono _ _ _ _ _)
      | (with_reducible exact LeO.refl _)
      | (with_reducible exact LeO.none _)
      | (with_reducible refine LeO.ite ?_ ?_)
      | (with_reducible refine LeO.bind ?_ (fun _ => ?_))
      | exact laws_eqStore.mono _ _ _ _ _ _ _
      | exact laws_heldStore.mono _ _ _ _ _
      | exact laws_markStore.mono _ _ _ _ _
      | exact LeO.none _
      | refine LeO.ite ?_ ?_
      | refine LeO.bind ?_ (fun _ => ?_)
set_option maxHeartbeats 8000000 in
set_option maxRecDepth 100000 in
theorem laws_FnExactStoreNew.calls (k : Nat) (r : Bool) (hT : Aside0 (r = true)) (w : World) (h : laws_FnExactStoreNew.f k = some r) :
    Calls Try.prog 3 #[] w fun e w' => e = .returned (.bool r) ∧ Below w.heap.size w w' := by
  have HB := Aside0.mk (Below.refl w.heap.size w)
  have HL := Aside0.mk (Nat.le_refl w.heap.size)
  have H : ((spec_StoreNew.f).bind fun b0 => ((impl_StoreNew.f).bind fun b1 => ((laws_eqStore.f k b1.1 b1.2.1 b1.2.2 b0.1 b0.2.1 b0.2.2).bind fun t16 => (if t16 = true then ((laws_markStore.f k b1.1 b1.2.1 b1.2.2 1).bind fun b4 => ((laws_heldStore.f k b4.2.1 b4.2.2 b1.2.2 1).bind fun t22 => (if t22 < 0 then (some false) else (if t22 = b4.1 then ((impl_StoreNew.f).bind fun b8 => ((laws_eqStore.f k b8.1 b8.2.1 b8.2.2 b0.1 b0.2.1 b0.2.2).bind fun t31 => (if t31 = true then ((laws_heldStore.f k b4.2.1 b4.2.2 b1.2.2 1).bind fun t33 => (if t33 < 0 then (some false) else (if t33 = b4.1 then (some true) else (some false)))) else (some false)))) else (some false))))) else (some false))))) = some r := h
  clear h
  replace H := Option.bind_eq_some_iff.mp H
  obtain ⟨⟨t2, t3, t4⟩, Fa00, H⟩ := H
  replace H : ((impl_StoreNew.f).bind fun b1 => ((laws_eqStore.f k b1.1 b1.2.1 b1.2.2 t2 t3 t4).bind fun t16 => (if t16 = true then ((laws_markStore.f k b1.1 b1.2.1 b1.2.2 1).bind fun b4 => ((laws_heldStore.f k b4.2.1 b4.2.2 b1.2.2 1).bind fun t22 => (if t22 < 0 then (some false) else (if t22 = b4.1 then ((impl_StoreNew.f).bind fun b8 => ((laws_eqStore.f k b8.1 b8.2.1 b8.2.2 t2 t3 t4).bind fun t31 => (if t31 = true then ((laws_heldStore.f k b4.2.1 b4.2.2 b1.2.2 1).bind fun t33 => (if t33 < 0 then (some false) else (if t33 = b4.1 then (some true) else (some false)))) else (some false)))) else (some false))))) else (some false)))) = some r := H
  have Fa0 := Aside0.mk Fa00
  clear Fa00
  replace H := Option.bind_eq_some_iff.mp H
  obtain ⟨⟨t9, t10, t11⟩, Fa10, H⟩ := H
  replace H : ((laws_eqStore.f k t9 t10 t11 t2 t3 t4).bind fun t16 => (if t16 = true then ((laws_markStore.f k t9 t10 t11 1).bind fun b4 => ((laws_heldStore.f k b4.2.1 b4.2.2 t11 1).bind fun t22 => (if t22 < 0 then (some false) else (if t22 = b4.1 then ((impl_StoreNew.f).bind fun b8 => ((laws_eqStore.f k b8.1 b8.2.1 b8.2.2 t2 t3 t4).bind fun t31 => (if t31 = true then ((laws_heldStore.f k b4.2.1 b4.2.2 t11 1).bind fun t33 => (if t33 < 0 then (some false) else (if t33 = b4.1 then (some true) else (some false)))) else (some false)))) else (some false))))) else (some false))) = some r := H
  have Fa1 := Aside0.mk Fa10
  clear Fa10
  replace H := Option.bind_eq_some_iff.mp H
  obtain ⟨t16, Fa20, H⟩ := H
  replace H : (if t16 = true then ((laws_markStore.f k t9 t10 t11 1).bind fun b4 => ((laws_heldStore.f k b4.2.1 b4.2.2 t11 1).bind fun t22 => (if t22 < 0 then (some false) else (if t22 = b4.1 then ((impl_StoreNew.f).bind fun b8 => ((laws_eqStore.f k b8.1 b8.2.1 b8.2.2 t2 t3 t4).bind fun t31 => (if t31 = true then ((laws_heldStore.f k b4.2.1 b4.2.2 t11 1).bind fun t33 => (if t33 < 0 then (some false) else (if t33 = b4.1 then (some true) else (some false)))) else (some false)))) else (some false))))) else (some false)) = some r := H
  have Fa2 := Aside0.mk Fa20
  clear Fa20
  have cd3 : t16 = true := Classical.byContradiction fun hc_ => by rw [if_neg hc_] at H; exact absurd ((Option.some.inj H).trans hT.out) (by decide)
  rw [if_pos cd3] at H
  subst cd3
  replace H : ((laws_markStore.f k t9 t10 t11 1).bind fun b4 => ((laws_heldStore.f k b4.2.1 b4.2.2 t11 1).bind fun t22 => (if t22 < 0 then (some false) else (if t22 = b4.1 then ((impl_StoreNew.f).bind fun b8 => ((laws_eqStore.f k b8.1 b8.2.1 b8.2.2 t2 t3 t4).bind fun t31 => (if t31 = true then ((laws_heldStore.f k b4.2.1 b4.2.2 t11 1).bind fun t33 => (if t33 < 0 then (some false) else (if t33 = b4.1 then (some true) else (some false)))) else (some false)))) else (some false))))) = some r := H
  replace H := Option.bind_eq_some_iff.mp H
  obtain ⟨⟨t18, t19, t20⟩, Fa40, H⟩ := H
  replace H : ((laws_heldStore.f k t19 t20 t11 1).bind fun t22 => (if t22 < 0 then (some false) else (if t22 = t18 then ((impl_StoreNew.f).bind fun b8 => ((laws_eqStore.f k b8.1 b8.2.1 b8.2.2 t2 t3 t4).bind fun t31 => (if t31 = true then ((laws_heldStore.f k t19 t20 t11 1).bind fun t33 => (if t33 < 0 then (some false) else (if t33 = t18 then (some true) else (some false)))) else (some false)))) else (some false)))) = some r := H
  have Fa4 := Aside0.mk Fa40
  clear Fa40
  replace H := Option.bind_eq_some_iff.mp H
  obtain ⟨t22, Fa50, H⟩ := H
  replace H : (if t22 < 0 then (some false) else (if t22 = t18 then ((impl_StoreNew.f).bind fun b8 => ((laws_eqStore.f k b8.1 b8.2.1 b8.2.2 t2 t3 t4).bind fun t31 => (if t31 = true then ((laws_heldStore.f k t19 t20 t11 1).bind fun t33 => (if t33 < 0 then (some false) else (if t33 = t18 then (some true) else (some false)))) else (some false)))) else (some false))) = some r := H
  have Fa5 := Aside0.mk Fa50
  clear Fa50
  have cd6 : ¬ (t22 < 0) := fun hc_ => by rw [if_pos hc_] at H; exact absurd ((Option.some.inj H).trans hT.out) (by decide)
  rw [if_neg cd6] at H
  have cd6b0 : decide (t22 < 0) = false := decide_eq_false cd6
  clear cd6
  have cd7 : t22 = t18 := Classical.byContradiction fun hc_ => by rw [if_neg hc_] at H; exact absurd ((Option.some.inj H).trans hT.out) (by decide)
  rw [if_pos cd7] at H
  have cd7b0 : (t22 == t18) = true := beq_iff_eq.mpr cd7
  have cd7b1 : (t22 != t18) = false := bne_eq_false_iff_eq.mpr cd7
  clear cd7
  replace H := Option.bind_eq_some_iff.mp H
  obtain ⟨⟨t24, t25, t26⟩, Fa80, H⟩ := H
  replace H : ((laws_eqStore.f k t24 t25 t26 t2 t3 t4).bind fun t31 => (if t31 = true then ((laws_heldStore.f k t19 t20 t11 1).bind fun t33 => (if t33 < 0 then (some false) else (if t33 = t18 then (some true) else (some false)))) else (some false))) = some r := H
  have Fa8 := Aside0.mk Fa80
  clear Fa80
  replace H := Option.bind_eq_some_iff.mp H
  obtain ⟨t31, Fa90, H⟩ := H
  replace H : (if t31 = true then ((laws_heldStore.f k t19 t20 t11 1).bind fun t33 => (if t33 < 0 then (some false) else (if t33 = t18 then (some true) else (some false)))) else (some false)) = some r := H
  have Fa9 := Aside0.mk Fa90
  clear Fa90
  have cd10 : t31 = true := Classical.byContradiction fun hc_ => by rw [if_neg hc_] at H; exact absurd ((Option.some.inj H).trans hT.out) (by decide)
  rw [if_pos cd10] at H
  subst cd10
  replace H : ((laws_heldStore.f k t19 t20 t11 1).bind fun t33 => (if t33 < 0 then (some false) else (if t33 = t18 then (some true) else (some false)))) = some r := H
  replace H := Option.bind_eq_some_iff.mp H
  obtain ⟨t33, Fa110, H⟩ := H
  replace H : (if t33 < 0 then (some false) else (if t33 = t18 then (some true) else (some false))) = some r := H
  have Fa11 := Aside0.mk Fa110
  clear Fa110
  have cd12 : ¬ (t33 < 0) := fun hc_ => by rw [if_pos hc_] at H; exact absurd ((Option.some.inj H).trans hT.out) (by decide)
  rw [if_neg cd12] at H
  have cd12b0 : decide (t33 < 0) = false := decide_eq_false cd12
  clear cd12
  have cd13 : t33 = t18 := Classical.byContradiction fun hc_ => by rw [if_neg hc_] at H; exact absurd ((Option.some.inj H).trans hT.out) (by decide)
  rw [if_pos cd13] at H
  have cd13b0 : (t33 == t18) = true := beq_iff_eq.mpr cd13
  have cd13b1 : (t33 != t18) = false := bne_eq_false_iff_eq.mpr cd13
  clear cd13
  obtain rfl := Option.some.inj H
  go_enter Try.func3, Try.ntmps3
  go_wp2_with (first | ((with_reducible refine gate_callee (f := 10) rfl ?_); refine goesL_ (some 6) rfl rfl Try.func10 (by kernel_rfl) rfl #[] rfl (by (try simp only [List.map_toArray, List.map_cons, List.map_nil]); first | done | rfl | (simp only [List.length_drop, List.length_take]; rfl)) ?_; (with_reducible refine (spec_StoreNew.calls  t2 t3 t4 _  Fa0.out).mono ?_); rintro e w1 ⟨v5, v6, rfl, ho0, ho1, hb⟩; refine ⟨_, rfl, ?_⟩; obtain ⟨TA2, TB2, hap2, ho0, ho1⟩ := Kd.two_apart ho0 ho1 (by decide); have DD2 := Aside0.mk hap2; clear hap2; have HZ5 := Aside0.mk (Kd.R_lower (Kd.R_mono (ok' := fun k_ => ((w.heap.size ≤ k_ ∧ k_ < w1.heap.size) ∧ TA2 k_)) (Kd.R_bound ho0) (fun k_ hk_ => hk_.1)) (below_size HB.out)); clear ho0; have HZ6 := Aside0.mk (Kd.S_lower (Kd.S_mono (ok' := fun k_ => ((w.heap.size ≤ k_ ∧ k_ < w1.heap.size) ∧ TB2 k_)) (Kd.S_bound ho1) (fun k_ hk_ => hk_.1)) (below_size HB.out)); clear ho1; replace HB := Aside0.mk (below_step HB.out hb); replace HL := Aside0.mk (And.intro HL.out (below_size hb)); clear hb; obtain ⟨A5, c5, e5⟩ := Kd.R_slice HZ5.out; subst e5; obtain ⟨A6, c6, e6⟩ := Kd.S_slice HZ6.out; subst e6) | ((with_reducible refine gate_dst (N := 1) rfl ?_); refine box_event ?hg (N := 1) ?hd (cs := #[.slice none 0 0, .slice none 0 0, .int .i64 0]) (t := 27) ?hr ?_; (case hd => rfl); (case hg => rfl); (case hr => first | (go_simp; done) | (go_simp; rfl)); intro gb7 hg w3 hbox hb; replace HZ5 := Aside0.mk (Kd.R_below HZ5.out hb); replace HZ6 := Aside0.mk (Kd.S_below HZ6.out hb); have GBK7 := Aside0.mk (show gb7 = w1.heap.size ∧ gb7 < w3.heap.size from ⟨hg, blk_lt hbox⟩); have GW7 := Aside0.mk (show w.heap.size ≤ gb7 by have q_ := below_size HB.out; rw [hg]; exact q_); have BK7 := Aside0.mk hbox; replace HB := Aside0.mk (below_step HB.out hb); replace HL := Aside0.mk (And.intro HL.out (below_size hb)); clear hb hbox hg; have hcz4 : w3.cell? ⟨gb7, 0, none⟩ = some (.slice none 0 0) := (blk_cell BK7.out 0).trans rfl; have hfz5 := blk_frozen BK7.out 0; have hcz6 : w3.cell? ⟨gb7, 1, none⟩ = some (.slice none 0 0) := (blk_cell BK7.out 1).trans rfl; have hfz7 := blk_frozen BK7.out 1; have hcz8 : w3.cell? ⟨gb7, 2, none⟩ = some (.int .i64 0) := (blk_cell BK7.out 2).trans rfl; have hfz9 := blk_frozen BK7.out 2) | ((with_reducible refine gate_store (t := 27) (p := 1) rfl ?_); refine store_event (t := 27) (p := 1) (v := ?vo11_) (w1 := (((w3.setCell ⟨gb7, 0, none⟩ (.slice A5 t2.length c5)).setCell ⟨gb7, 1, none⟩ (.slice A6 t3.length c6)).setCell ⟨gb7, 2, none⟩ (.int .i64 t4))) ?hg ?ho ?hn ?hr ?_; (case ho => rfl); (case hg => rfl); (case hn => rfl); (case hr => first | (go_simp; done) | (go_simp; rfl)); intro w10 hw; have hk : Kept w3 w10 (fun k_ => k_ = gb7) := (by rw [hw]; exact (Kept.setCell (Kept.setCell (Kept.setCell (Kept.refl w3 (fun k_ => k_ = gb7)) (p := ⟨gb7, 0, none⟩) (.inl rfl) (.slice A5 t2.length c5)) (p := ⟨gb7, 1, none⟩) (.inl rfl) (.slice A6 t3.length c6)) (p := ⟨gb7, 2, none⟩) (.inl rfl) (.int .i64 t4))); have g0_ := GBK7.out; replace HZ5 := Aside0.mk (Kd.R_kept HZ5.out hk (fun k_ (hk_ : ((w.heap.size ≤ k_ ∧ k_ < w1.heap.size) ∧ TA2 k_)) (hs_ : k_ = gb7) => by have q_ := HL.out; first | omega | exact DD2.out k_ hk_.2 hs_.2 | exact DD2.out k_ hs_.2 hk_.2 | (rcases hk_ with hk_ | hk_ <;> first | omega | exact DD2.out k_ hk_.2 hs_.2 | exact DD2.out k_ hs_.2 hk_.2) | (rcases hs_ with hs_ | hs_ <;> first | omega | exact DD2.out k_ hk_.2 hs_.2 | exact DD2.out k_ hs_.2 hk_.2))); replace HZ6 := Aside0.mk (Kd.S_kept HZ6.out hk (fun k_ (hk_ : ((w.heap.size ≤ k_ ∧ k_ < w1.heap.size) ∧ TB2 k_)) (hs_ : k_ = gb7) => by have q_ := HL.out; first | omega | exact DD2.out k_ hk_.2 hs_.2 | exact DD2.out k_ hs_.2 hk_.2 | (rcases hk_ with hk_ | hk_ <;> first | omega | exact DD2.out k_ hk_.2 hs_.2 | exact DD2.out k_ hs_.2 hk_.2) | (rcases hs_ with hs_ | hs_ <;> first | omega | exact DD2.out k_ hk_.2 hs_.2 | exact DD2.out k_ hs_.2 hk_.2))); clear g0_; replace BK7 := Aside0.mk (show w10.heap[gb7]? = some (.cells #[.slice A5 t2.length c5, .slice A6 t3.length c6, .int .i64 t4] 27 (0, 0)) from (by rw [hw]; exact (blk_put (cs := #[.slice A5 t2.length c5, .slice A6 t3.length c6, .int .i64 0]) (cs' := #[.slice A5 t2.length c5, .slice A6 t3.length c6, .int .i64 t4]) (blk_put (cs := #[.slice A5 t2.length c5, .slice none 0 0, .int .i64 0]) (cs' := #[.slice A5 t2.length c5, .slice A6 t3.length c6, .int .i64 0]) (blk_put (cs := #[.slice none 0 0, .slice none 0 0, .int .i64 0]) (cs' := #[.slice A5 t2.length c5, .slice none 0 0, .int .i64 0]) BK7.out 0 _ rfl) 1 _ rfl) 2 _ rfl))); replace HB := Aside0.mk (show Below w.heap.size w w10 from (by rw [hw]; exact (below_set (below_set (below_set HB.out GW7.out) GW7.out) GW7.out))); replace HL := Aside0.mk (And.intro HL.out hk.1); clear hk hw; clear hcz4 hfz5 hcz6 hfz7 hcz8 hfz9; have hcz12 : w10.cell? ⟨gb7, 0, none⟩ = some (.slice A5 t2.length c5) := (blk_cell BK7.out 0).trans rfl; have hfz13 := blk_frozen BK7.out 0; have hcz14 : w10.cell? ⟨gb7, 1, none⟩ = some (.slice A6 t3.length c6) := (blk_cell BK7.out 1).trans rfl; have hfz15 := blk_frozen BK7.out 1; have hcz16 : w10.cell? ⟨gb7, 2, none⟩ = some (.int .i64 t4) := (blk_cell BK7.out 2).trans rfl; have hfz17 := blk_frozen BK7.out 2) | ((with_reducible refine gate_callee (f := 11) rfl ?_); refine goesL_ (some 7) rfl rfl Try.func11 (by kernel_rfl) rfl #[] rfl (by (try simp only [List.map_toArray, List.map_cons, List.map_nil]); first | done | rfl | (simp only [List.length_drop, List.length_take]; rfl)) ?_; (with_reducible refine (impl_StoreNew.calls  t9 t10 t11 _  Fa1.out).mono ?_); rintro e w18 ⟨v12, v13, rfl, ho0, ho1, hb⟩; refine ⟨_, rfl, ?_⟩; obtain ⟨TA19, TB19, hap19, ho0, ho1⟩ := Kd.two_apart ho0 ho1 (by decide); have DD19 := Aside0.mk hap19; clear hap19; have HZ12 := Aside0.mk (Kd.R_lower (Kd.R_mono (ok' := fun k_ => ((w10.heap.size ≤ k_ ∧ k_ < w18.heap.size) ∧ TA19 k_)) (Kd.R_bound ho0) (fun k_ hk_ => hk_.1)) (below_size HB.out)); clear ho0; have HZ13 := Aside0.mk (Kd.S_lower (Kd.S_mono (ok' := fun k_ => ((w10.heap.size ≤ k_ ∧ k_ < w18.heap.size) ∧ TB19 k_)) (Kd.S_bound ho1) (fun k_ hk_ => hk_.1)) (below_size HB.out)); clear ho1; replace HZ5 := Aside0.mk (Kd.R_below HZ5.out hb); replace HZ6 := Aside0.mk (Kd.S_below HZ6.out hb); replace BK7 := Aside0.mk (blk_below BK7.out hb); replace HB := Aside0.mk (below_step HB.out hb); replace HL := Aside0.mk (And.intro HL.out (below_size hb)); clear hb; obtain ⟨A12, c12, e12⟩ := Kd.R_slice HZ12.out; subst e12; obtain ⟨A13, c13, e13⟩ := Kd.S_slice HZ13.out; subst e13; clear hcz12 hfz13 hcz14 hfz15 hcz16 hfz17; have hcz20 : w18.cell? ⟨gb7, 0, none⟩ = some (.slice A5 t2.length c5) := (blk_cell BK7.out 0).trans rfl; have hfz21 := blk_frozen BK7.out 0; have hcz22 : w18.cell? ⟨gb7, 1, none⟩ = some (.slice A6 t3.length c6) := (blk_cell BK7.out 1).trans rfl; have hfz23 := blk_frozen BK7.out 1; have hcz24 : w18.cell? ⟨gb7, 2, none⟩ = some (.int .i64 t4) := (blk_cell BK7.out 2).trans rfl; have hfz25 := blk_frozen BK7.out 2) | ((with_reducible refine gate_dst (N := 2) rfl ?_); refine box_event ?hg (N := 2) ?hd (cs := #[.slice none 0 0, .slice none 0 0, .int .i64 0]) (t := 27) ?hr ?_; (case hd => rfl); (case hg => rfl); (case hr => first | (go_simp; done) | (go_simp; rfl)); intro gb14 hg w26 hbox hb; replace HZ5 := Aside0.mk (Kd.R_below HZ5.out hb); replace HZ6 := Aside0.mk (Kd.S_below HZ6.out hb); replace HZ12 := Aside0.mk (Kd.R_below HZ12.out hb); replace HZ13 := Aside0.mk (Kd.S_below HZ13.out hb); replace BK7 := Aside0.mk (blk_below BK7.out hb); have GBK14 := Aside0.mk (show gb14 = w18.heap.size ∧ gb14 < w26.heap.size from ⟨hg, blk_lt hbox⟩); have GW14 := Aside0.mk (show w.heap.size ≤ gb14 by have q_ := below_size HB.out; rw [hg]; exact q_); have BK14 := Aside0.mk hbox; replace HB := Aside0.mk (below_step HB.out hb); replace HL := Aside0.mk (And.intro HL.out (below_size hb)); clear hb hbox hg; clear hcz20 hfz21 hcz22 hfz23 hcz24 hfz25; have hcz27 : w26.cell? ⟨gb7, 0, none⟩ = some (.slice A5 t2.length c5) := (blk_cell BK7.out 0).trans rfl; have hfz28 := blk_frozen BK7.out 0; have hcz29 : w26.cell? ⟨gb7, 1, none⟩ = some (.slice A6 t3.length c6) := (blk_cell BK7.out 1).trans rfl; have hfz30 := blk_frozen BK7.out 1; have hcz31 : w26.cell? ⟨gb7, 2, none⟩ = some (.int .i64 t4) := (blk_cell BK7.out 2).trans rfl; have hfz32 := blk_frozen BK7.out 2; have hcz33 : w26.cell? ⟨gb14, 0, none⟩ = some (.slice none 0 0) := (blk_cell BK14.out 0).trans rfl; have hfz34 := blk_frozen BK14.out 0; have hcz35 : w26.cell? ⟨gb14, 1, none⟩ = some (.slice none 0 0) := (blk_cell BK14.out 1).trans rfl; have hfz36 := blk_frozen BK14.out 1; have hcz37 : w26.cell? ⟨gb14, 2, none⟩ = some (.int .i64 0) := (blk_cell BK14.out 2).trans rfl; have hfz38 := blk_frozen BK14.out 2) | ((with_reducible refine gate_store (t := 27) (p := 2) rfl ?_); refine store_event (t := 27) (p := 2) (v := ?vo40_) (w1 := (((w26.setCell ⟨gb14, 0, none⟩ (.slice A12 t9.length c12)).setCell ⟨gb14, 1, none⟩ (.slice A13 t10.length c13)).setCell ⟨gb14, 2, none⟩ (.int .i64 t11))) ?hg ?ho ?hn ?hr ?_; (case ho => rfl); (case hg => rfl); (case hn => rfl); (case hr => first | (go_simp; done) | (go_simp; rfl)); intro w39 hw; have hk : Kept w26 w39 (fun k_ => k_ = gb14) := (by rw [hw]; exact (Kept.setCell (Kept.setCell (Kept.setCell (Kept.refl w26 (fun k_ => k_ = gb14)) (p := ⟨gb14, 0, none⟩) (.inl rfl) (.slice A12 t9.length c12)) (p := ⟨gb14, 1, none⟩) (.inl rfl) (.slice A13 t10.length c13)) (p := ⟨gb14, 2, none⟩) (.inl rfl) (.int .i64 t11))); have g0_ := GBK14.out; replace HZ5 := Aside0.mk (Kd.R_kept HZ5.out hk (fun k_ (hk_ : ((w.heap.size ≤ k_ ∧ k_ < w1.heap.size) ∧ TA2 k_)) (hs_ : k_ = gb14) => by have q_ := HL.out; first | omega | exact DD2.out k_ hk_.2 hs_.2 | exact DD2.out k_ hs_.2 hk_.2 | exact DD19.out k_ hk_.2 hs_.2 | exact DD19.out k_ hs_.2 hk_.2 | (rcases hk_ with hk_ | hk_ <;> first | omega | exact DD2.out k_ hk_.2 hs_.2 | exact DD2.out k_ hs_.2 hk_.2 | exact DD19.out k_ hk_.2 hs_.2 | exact DD19.out k_ hs_.2 hk_.2) | (rcases hs_ with hs_ | hs_ <;> first | omega | exact DD2.out k_ hk_.2 hs_.2 | exact DD2.out k_ hs_.2 hk_.2 | exact DD19.out k_ hk_.2 hs_.2 | exact DD19.out k_ hs_.2 hk_.2))); replace HZ6 := Aside0.mk (Kd.S_kept HZ6.out hk (fun k_ (hk_ : ((w.heap.size ≤ k_ ∧ k_ < w1.heap.size) ∧ TB2 k_)) (hs_ : k_ = gb14) => by have q_ := HL.out; first | omega | exact DD2.out k_ hk_.2 hs_.2 | exact DD2.out k_ hs_.2 hk_.2 | exact DD19.out k_ hk_.2 hs_.2 | exact DD19.out k_ hs_.2 hk_.2 | (rcases hk_ with hk_ | hk_ <;> first | omega | exact DD2.out k_ hk_.2 hs_.2 | exact DD2.out k_ hs_.2 hk_.2 | exact DD19.out k_ hk_.2 hs_.2 | exact DD19.out k_ hs_.2 hk_.2) | (rcases hs_ with hs_ | hs_ <;> first | omega | exact DD2.out k_ hk_.2 hs_.2 | exact DD2.out k_ hs_.2 hk_.2 | exact DD19.out k_ hk_.2 hs_.2 | exact DD19.out k_ hs_.2 hk_.2))); replace HZ12 := Aside0.mk (Kd.R_kept HZ12.out hk (fun k_ (hk_ : ((w10.heap.size ≤ k_ ∧ k_ < w18.heap.size) ∧ TA19 k_)) (hs_ : k_ = gb14) => by have q_ := HL.out; first | omega | exact DD2.out k_ hk_.2 hs_.2 | exact DD2.out k_ hs_.2 hk_.2 | exact DD19.out k_ hk_.2 hs_.2 | exact DD19.out k_ hs_.2 hk_.2 | (rcases hk_ with hk_ | hk_ <;> first | omega | exact DD2.out k_ hk_.2 hs_.2 | exact DD2.out k_ hs_.2 hk_.2 | exact DD19.out k_ hk_.2 hs_.2 | exact DD19.out k_ hs_.2 hk_.2) | (rcases hs_ with hs_ | hs_ <;> first | omega | exact DD2.out k_ hk_.2 hs_.2 | exact DD2.out k_ hs_.2 hk_.2 | exact DD19.out k_ hk_.2 hs_.2 | exact DD19.out k_ hs_.2 hk_.2))); replace HZ13 := Aside0.mk (Kd.S_kept HZ13.out hk (fun k_ (hk_ : ((w10.heap.size ≤ k_ ∧ k_ < w18.heap.size) ∧ TB19 k_)) (hs_ : k_ = gb14) => by have q_ := HL.out; first | omega | exact DD2.out k_ hk_.2 hs_.2 | exact DD2.out k_ hs_.2 hk_.2 | exact DD19.out k_ hk_.2 hs_.2 | exact DD19.out k_ hs_.2 hk_.2 | (rcases hk_ with hk_ | hk_ <;> first | omega | exact DD2.out k_ hk_.2 hs_.2 | exact DD2.out k_ hs_.2 hk_.2 | exact DD19.out k_ hk_.2 hs_.2 | exact DD19.out k_ hs_.2 hk_.2) | (rcases hs_ with hs_ | hs_ <;> first | omega | exact DD2.out k_ hk_.2 hs_.2 | exact DD2.out k_ hs_.2 hk_.2 | exact DD19.out k_ hk_.2 hs_.2 | exact DD19.out k_ hs_.2 hk_.2))); replace BK7 := Aside0.mk (blk_kept BK7.out hk (fun hs_ => by have q_ := HL.out; have g_ := GBK7.out; have hs2_ : gb7 = gb14 := hs_; omega)); clear g0_; replace BK14 := Aside0.mk (show w39.heap[gb14]? = some (.cells #[.slice A12 t9.length c12, .slice A13 t10.length c13, .int .i64 t11] 27 (0, 0)) from (by rw [hw]; exact (blk_put (cs := #[.slice A12 t9.length c12, .slice A13 t10.length c13, .int .i64 0]) (cs' := #[.slice A12 t9.length c12, .slice A13 t10.length c13, .int .i64 t11]) (blk_put (cs := #[.slice A12 t9.length c12, .slice none 0 0, .int .i64 0]) (cs' := #[.slice A12 t9.length c12, .slice A13 t10.length c13, .int .i64 0]) (blk_put (cs := #[.slice none 0 0, .slice none 0 0, .int .i64 0]) (cs' := #[.slice A12 t9.length c12, .slice none 0 0, .int .i64 0]) BK14.out 0 _ rfl) 1 _ rfl) 2 _ rfl))); replace HB := Aside0.mk (show Below w.heap.size w w39 from (by rw [hw]; exact (below_set (below_set (below_set HB.out GW14.out) GW14.out) GW14.out))); replace HL := Aside0.mk (And.intro HL.out hk.1); clear hk hw; clear hcz27 hfz28 hcz29 hfz30 hcz31 hfz32 hcz33 hfz34 hcz35 hfz36 hcz37 hfz38; have hcz41 : w39.cell? ⟨gb7, 0, none⟩ = some (.slice A5 t2.length c5) := (blk_cell BK7.out 0).trans rfl; have hfz42 := blk_frozen BK7.out 0; have hcz43 : w39.cell? ⟨gb7, 1, none⟩ = some (.slice A6 t3.length c6) := (blk_cell BK7.out 1).trans rfl; have hfz44 := blk_frozen BK7.out 1; have hcz45 : w39.cell? ⟨gb7, 2, none⟩ = some (.int .i64 t4) := (blk_cell BK7.out 2).trans rfl; have hfz46 := blk_frozen BK7.out 2; have hcz47 : w39.cell? ⟨gb14, 0, none⟩ = some (.slice A12 t9.length c12) := (blk_cell BK14.out 0).trans rfl; have hfz48 := blk_frozen BK14.out 0; have hcz49 : w39.cell? ⟨gb14, 1, none⟩ = some (.slice A13 t10.length c13) := (blk_cell BK14.out 1).trans rfl; have hfz50 := blk_frozen BK14.out 1; have hcz51 : w39.cell? ⟨gb14, 2, none⟩ = some (.int .i64 t11) := (blk_cell BK14.out 2).trans rfl; have hfz52 := blk_frozen BK14.out 2) | ((with_reducible refine gate_callee (f := 12) rfl ?_); refine goesL_ (some 10) rfl rfl Try.func12 (by kernel_rfl) rfl #[.agg #[.slice A12 t9.length c12, .slice A13 t10.length c13, .int .i64 t11], .agg #[.slice A5 t2.length c5, .slice A6 t3.length c6, .int .i64 t4]] rfl (by (try simp only [List.map_toArray, List.map_cons, List.map_nil]); first | done | rfl | (simp only [List.length_drop, List.length_take]; rfl)) ?_; (with_reducible refine (laws_eqStore.calls k _ _ t9 _ _ t10 t11 _ _ t2 _ _ t3 t4 true _ ?side1 ?side2 ?side3 ?side4 ?side5 ?side6 ?side7 ?side8 Fa2.out).mono ?_); (case side1 => exact (Kd.R_reads' HZ12.out).2.2); (case side2 => exact (Kd.R_reads' HZ12.out).2.1); (case side3 => exact (Kd.S_reads' HZ13.out).2.2); (case side4 => exact (Kd.S_reads' HZ13.out).2.1); (case side5 => exact (Kd.R_reads' HZ5.out).2.2); (case side6 => exact (Kd.R_reads' HZ5.out).2.1); (case side7 => exact (Kd.S_reads' HZ6.out).2.2); (case side8 => exact (Kd.S_reads' HZ6.out).2.1); rintro e w53 ⟨rfl, hb⟩; refine ⟨_, rfl, ?_⟩; replace HZ5 := Aside0.mk (Kd.R_below HZ5.out hb); replace HZ6 := Aside0.mk (Kd.S_below HZ6.out hb); replace HZ12 := Aside0.mk (Kd.R_below HZ12.out hb); replace HZ13 := Aside0.mk (Kd.S_below HZ13.out hb); replace BK7 := Aside0.mk (blk_below BK7.out hb); replace BK14 := Aside0.mk (blk_below BK14.out hb); replace HB := Aside0.mk (below_step HB.out hb); replace HL := Aside0.mk (And.intro HL.out (below_size hb)); clear hb; clear hcz41 hfz42 hcz43 hfz44 hcz45 hfz46 hcz47 hfz48 hcz49 hfz50 hcz51 hfz52; have hcz54 : w53.cell? ⟨gb7, 0, none⟩ = some (.slice A5 t2.length c5) := (blk_cell BK7.out 0).trans rfl; have hfz55 := blk_frozen BK7.out 0; have hcz56 : w53.cell? ⟨gb7, 1, none⟩ = some (.slice A6 t3.length c6) := (blk_cell BK7.out 1).trans rfl; have hfz57 := blk_frozen BK7.out 1; have hcz58 : w53.cell? ⟨gb7, 2, none⟩ = some (.int .i64 t4) := (blk_cell BK7.out 2).trans rfl; have hfz59 := blk_frozen BK7.out 2; have hcz60 : w53.cell? ⟨gb14, 0, none⟩ = some (.slice A12 t9.length c12) := (blk_cell BK14.out 0).trans rfl; have hfz61 := blk_frozen BK14.out 0; have hcz62 : w53.cell? ⟨gb14, 1, none⟩ = some (.slice A13 t10.length c13) := (blk_cell BK14.out 1).trans rfl; have hfz63 := blk_frozen BK14.out 1; have hcz64 : w53.cell? ⟨gb14, 2, none⟩ = some (.int .i64 t11) := (blk_cell BK14.out 2).trans rfl; have hfz65 := blk_frozen BK14.out 2) | ((with_reducible refine gate_callee (f := 13) rfl ?_); refine goesL_ (some 14) rfl rfl Try.func13 (by kernel_rfl) rfl #[.agg #[.slice A12 t9.length c12, .slice A13 t10.length c13, .int .i64 t11], .int .i64 1] rfl (by (try simp only [List.map_toArray, List.map_cons, List.map_nil]); first | done | rfl | (simp only [List.length_drop, List.length_take]; rfl)) ?_; (with_reducible refine (laws_markStore.calls k (fun k_ => ((w10.heap.size ≤ k_ ∧ k_ < w18.heap.size) ∧ TA19 k_)) _ t9 (fun k_ => ((w10.heap.size ≤ k_ ∧ k_ < w18.heap.size) ∧ TB19 k_)) _ t10 t11 1 t18 t19 t20 w _ HB.out (fun k_ (h1_ : ((w10.heap.size ≤ k_ ∧ k_ < w18.heap.size) ∧ TA19 k_)) (h2_ : ((w10.heap.size ≤ k_ ∧ k_ < w18.heap.size) ∧ TB19 k_)) => by have q_ := HL.out; first | omega | exact DD2.out k_ h1_.2 h2_.2 | exact DD19.out k_ h1_.2 h2_.2) HZ12.out HZ13.out Fa4.out).mono ?_); rintro e w66 ⟨rfl, hy0, hy1, hb0, hk⟩; refine ⟨_, rfl, ?_⟩; have ny0_ := Aside0.mk (Kd.R_mono (ok' := fun k_ => (((w10.heap.size ≤ k_ ∧ k_ < w18.heap.size) ∧ TA19 k_) ∨ (w53.heap.size ≤ k_ ∧ k_ < w66.heap.size))) (Kd.R_bound hy0) (fun k_ hk_ => hk_.1.imp id (fun h_ => ⟨h_, hk_.2.2.1⟩))); have ny1_ := Aside0.mk (Kd.S_mono (ok' := fun k_ => (((w10.heap.size ≤ k_ ∧ k_ < w18.heap.size) ∧ TB19 k_) ∨ (w53.heap.size ≤ k_ ∧ k_ < w66.heap.size))) (Kd.S_bound hy1) (fun k_ hk_ => hk_.1.imp id (fun h_ => ⟨h_, hk_.2.2.1⟩))); replace HZ5 := Aside0.mk (Kd.R_kept HZ5.out hk (fun k_ (hk_ : ((w.heap.size ≤ k_ ∧ k_ < w1.heap.size) ∧ TA2 k_)) (hs_ : (((w10.heap.size ≤ k_ ∧ k_ < w18.heap.size) ∧ TA19 k_) ∨ ((w10.heap.size ≤ k_ ∧ k_ < w18.heap.size) ∧ TB19 k_))) => by have q_ := HL.out; first | omega | exact DD2.out k_ hk_.2 hs_.2 | exact DD2.out k_ hs_.2 hk_.2 | exact DD19.out k_ hk_.2 hs_.2 | exact DD19.out k_ hs_.2 hk_.2 | (rcases hk_ with hk_ | hk_ <;> first | omega | exact DD2.out k_ hk_.2 hs_.2 | exact DD2.out k_ hs_.2 hk_.2 | exact DD19.out k_ hk_.2 hs_.2 | exact DD19.out k_ hs_.2 hk_.2) | (rcases hs_ with hs_ | hs_ <;> first | omega | exact DD2.out k_ hk_.2 hs_.2 | exact DD2.out k_ hs_.2 hk_.2 | exact DD19.out k_ hk_.2 hs_.2 | exact DD19.out k_ hs_.2 hk_.2))); replace HZ6 := Aside0.mk (Kd.S_kept HZ6.out hk (fun k_ (hk_ : ((w.heap.size ≤ k_ ∧ k_ < w1.heap.size) ∧ TB2 k_)) (hs_ : (((w10.heap.size ≤ k_ ∧ k_ < w18.heap.size) ∧ TA19 k_) ∨ ((w10.heap.size ≤ k_ ∧ k_ < w18.heap.size) ∧ TB19 k_))) => by have q_ := HL.out; first | omega | exact DD2.out k_ hk_.2 hs_.2 | exact DD2.out k_ hs_.2 hk_.2 | exact DD19.out k_ hk_.2 hs_.2 | exact DD19.out k_ hs_.2 hk_.2 | (rcases hk_ with hk_ | hk_ <;> first | omega | exact DD2.out k_ hk_.2 hs_.2 | exact DD2.out k_ hs_.2 hk_.2 | exact DD19.out k_ hk_.2 hs_.2 | exact DD19.out k_ hs_.2 hk_.2) | (rcases hs_ with hs_ | hs_ <;> first | omega | exact DD2.out k_ hk_.2 hs_.2 | exact DD2.out k_ hs_.2 hk_.2 | exact DD19.out k_ hk_.2 hs_.2 | exact DD19.out k_ hs_.2 hk_.2))); replace BK7 := Aside0.mk (blk_kept BK7.out hk (fun hs_ => by have q_ := HL.out; have g_ := GBK7.out; have hs2_ : (((w10.heap.size ≤ gb7 ∧ gb7 < w18.heap.size) ∧ TA19 gb7) ∨ ((w10.heap.size ≤ gb7 ∧ gb7 < w18.heap.size) ∧ TB19 gb7)) := hs_; omega)); replace BK14 := Aside0.mk (blk_kept BK14.out hk (fun hs_ => by have q_ := HL.out; have g_ := GBK14.out; have hs2_ : (((w10.heap.size ≤ gb14 ∧ gb14 < w18.heap.size) ∧ TA19 gb14) ∨ ((w10.heap.size ≤ gb14 ∧ gb14 < w18.heap.size) ∧ TB19 gb14)) := hs_; omega)); replace HZ12 := ny0_; clear ny0_; replace HZ13 := ny1_; clear ny1_; replace HB := Aside0.mk hb0; replace HL := Aside0.mk (And.intro HL.out hk.1); clear hb0 hk hy0 hy1; clear hcz54 hfz55 hcz56 hfz57 hcz58 hfz59 hcz60 hfz61 hcz62 hfz63 hcz64 hfz65; have hcz67 : w66.cell? ⟨gb7, 0, none⟩ = some (.slice A5 t2.length c5) := (blk_cell BK7.out 0).trans rfl; have hfz68 := blk_frozen BK7.out 0; have hcz69 : w66.cell? ⟨gb7, 1, none⟩ = some (.slice A6 t3.length c6) := (blk_cell BK7.out 1).trans rfl; have hfz70 := blk_frozen BK7.out 1; have hcz71 : w66.cell? ⟨gb7, 2, none⟩ = some (.int .i64 t4) := (blk_cell BK7.out 2).trans rfl; have hfz72 := blk_frozen BK7.out 2; have hcz73 : w66.cell? ⟨gb14, 0, none⟩ = some (.slice A12 t9.length c12) := (blk_cell BK14.out 0).trans rfl; have hfz74 := blk_frozen BK14.out 0; have hcz75 : w66.cell? ⟨gb14, 1, none⟩ = some (.slice A13 t10.length c13) := (blk_cell BK14.out 1).trans rfl; have hfz76 := blk_frozen BK14.out 1; have hcz77 : w66.cell? ⟨gb14, 2, none⟩ = some (.int .i64 t11) := (blk_cell BK14.out 2).trans rfl; have hfz78 := blk_frozen BK14.out 2) | ((with_reducible refine gate_callee (f := 14) rfl ?_); refine goesL_ (some 17) rfl rfl Try.func14 (by kernel_rfl) rfl #[.agg #[.slice A12 t19.length c12, .slice A13 t20.length c13, .int .i64 t11], .int .i64 1] rfl (by (try simp only [List.map_toArray, List.map_cons, List.map_nil]); first | done | (rw [show t19.length = t9.length from (Kd.R_reads' HZ12.out).1.symm, show t20.length = t10.length from (Kd.S_reads' HZ13.out).1.symm] <;> rfl) | rfl | (simp only [List.length_drop, List.length_take]; rfl)) ?_; (with_reducible refine (laws_heldStore.calls k _ _ t19 _ _ t20 t11 1 t22 _ ?side1 ?side2 ?side3 ?side4 Fa5.out).mono ?_); (case side1 => exact (Kd.R_reads' HZ12.out).2.2); (case side2 => have h1_ := (Kd.R_reads' HZ12.out).1; have h2_ := (Kd.R_reads' HZ12.out).2.1; omega); (case side3 => exact (Kd.S_reads' HZ13.out).2.2); (case side4 => have h1_ := (Kd.S_reads' HZ13.out).1; have h2_ := (Kd.S_reads' HZ13.out).2.1; omega); rintro e w79 ⟨rfl, hb⟩; refine ⟨_, rfl, ?_⟩; replace HZ5 := Aside0.mk (Kd.R_below HZ5.out hb); replace HZ6 := Aside0.mk (Kd.S_below HZ6.out hb); replace HZ12 := Aside0.mk (Kd.R_below HZ12.out hb); replace HZ13 := Aside0.mk (Kd.S_below HZ13.out hb); replace BK7 := Aside0.mk (blk_below BK7.out hb); replace BK14 := Aside0.mk (blk_below BK14.out hb); replace HB := Aside0.mk (below_step HB.out hb); replace HL := Aside0.mk (And.intro HL.out (below_size hb)); clear hb; clear hcz67 hfz68 hcz69 hfz70 hcz71 hfz72 hcz73 hfz74 hcz75 hfz76 hcz77 hfz78; have hcz80 : w79.cell? ⟨gb7, 0, none⟩ = some (.slice A5 t2.length c5) := (blk_cell BK7.out 0).trans rfl; have hfz81 := blk_frozen BK7.out 0; have hcz82 : w79.cell? ⟨gb7, 1, none⟩ = some (.slice A6 t3.length c6) := (blk_cell BK7.out 1).trans rfl; have hfz83 := blk_frozen BK7.out 1; have hcz84 : w79.cell? ⟨gb7, 2, none⟩ = some (.int .i64 t4) := (blk_cell BK7.out 2).trans rfl; have hfz85 := blk_frozen BK7.out 2; have hcz86 : w79.cell? ⟨gb14, 0, none⟩ = some (.slice A12 t9.length c12) := (blk_cell BK14.out 0).trans rfl; have hfz87 := blk_frozen BK14.out 0; have hcz88 : w79.cell? ⟨gb14, 1, none⟩ = some (.slice A13 t10.length c13) := (blk_cell BK14.out 1).trans rfl; have hfz89 := blk_frozen BK14.out 1; have hcz90 : w79.cell? ⟨gb14, 2, none⟩ = some (.int .i64 t11) := (blk_cell BK14.out 2).trans rfl; have hfz91 := blk_frozen BK14.out 2) | ((with_reducible refine gate_callee (f := 11) rfl ?_); refine goesL_ (some 23) rfl rfl Try.func11 (by kernel_rfl) rfl #[] rfl (by (try simp only [List.map_toArray, List.map_cons, List.map_nil]); first | done | rfl | (simp only [List.length_drop, List.length_take]; rfl)) ?_; (with_reducible refine (impl_StoreNew.calls  t24 t25 t26 _  Fa8.out).mono ?_); rintro e w92 ⟨v27, v28, rfl, ho0, ho1, hb⟩; refine ⟨_, rfl, ?_⟩; obtain ⟨TA93, TB93, hap93, ho0, ho1⟩ := Kd.two_apart ho0 ho1 (by decide); have DD93 := Aside0.mk hap93; clear hap93; have HZ27 := Aside0.mk (Kd.R_lower (Kd.R_mono (ok' := fun k_ => ((w79.heap.size ≤ k_ ∧ k_ < w92.heap.size) ∧ TA93 k_)) (Kd.R_bound ho0) (fun k_ hk_ => hk_.1)) (below_size HB.out)); clear ho0; have HZ28 := Aside0.mk (Kd.S_lower (Kd.S_mono (ok' := fun k_ => ((w79.heap.size ≤ k_ ∧ k_ < w92.heap.size) ∧ TB93 k_)) (Kd.S_bound ho1) (fun k_ hk_ => hk_.1)) (below_size HB.out)); clear ho1; replace HZ5 := Aside0.mk (Kd.R_below HZ5.out hb); replace HZ6 := Aside0.mk (Kd.S_below HZ6.out hb); replace HZ12 := Aside0.mk (Kd.R_below HZ12.out hb); replace HZ13 := Aside0.mk (Kd.S_below HZ13.out hb); replace BK7 := Aside0.mk (blk_below BK7.out hb); replace BK14 := Aside0.mk (blk_below BK14.out hb); replace HB := Aside0.mk (below_step HB.out hb); replace HL := Aside0.mk (And.intro HL.out (below_size hb)); clear hb; obtain ⟨A27, c27, e27⟩ := Kd.R_slice HZ27.out; subst e27; obtain ⟨A28, c28, e28⟩ := Kd.S_slice HZ28.out; subst e28; clear hcz80 hfz81 hcz82 hfz83 hcz84 hfz85 hcz86 hfz87 hcz88 hfz89 hcz90 hfz91; have hcz94 : w92.cell? ⟨gb7, 0, none⟩ = some (.slice A5 t2.length c5) := (blk_cell BK7.out 0).trans rfl; have hfz95 := blk_frozen BK7.out 0; have hcz96 : w92.cell? ⟨gb7, 1, none⟩ = some (.slice A6 t3.length c6) := (blk_cell BK7.out 1).trans rfl; have hfz97 := blk_frozen BK7.out 1; have hcz98 : w92.cell? ⟨gb7, 2, none⟩ = some (.int .i64 t4) := (blk_cell BK7.out 2).trans rfl; have hfz99 := blk_frozen BK7.out 2; have hcz100 : w92.cell? ⟨gb14, 0, none⟩ = some (.slice A12 t9.length c12) := (blk_cell BK14.out 0).trans rfl; have hfz101 := blk_frozen BK14.out 0; have hcz102 : w92.cell? ⟨gb14, 1, none⟩ = some (.slice A13 t10.length c13) := (blk_cell BK14.out 1).trans rfl; have hfz103 := blk_frozen BK14.out 1; have hcz104 : w92.cell? ⟨gb14, 2, none⟩ = some (.int .i64 t11) := (blk_cell BK14.out 2).trans rfl; have hfz105 := blk_frozen BK14.out 2) | ((with_reducible refine gate_dst (N := 5) rfl ?_); refine box_event ?hg (N := 5) ?hd (cs := #[.slice none 0 0, .slice none 0 0, .int .i64 0]) (t := 27) ?hr ?_; (case hd => rfl); (case hg => rfl); (case hr => first | (go_simp; done) | (go_simp; rfl)); intro gb29 hg w106 hbox hb; replace HZ5 := Aside0.mk (Kd.R_below HZ5.out hb); replace HZ6 := Aside0.mk (Kd.S_below HZ6.out hb); replace HZ12 := Aside0.mk (Kd.R_below HZ12.out hb); replace HZ13 := Aside0.mk (Kd.S_below HZ13.out hb); replace HZ27 := Aside0.mk (Kd.R_below HZ27.out hb); replace HZ28 := Aside0.mk (Kd.S_below HZ28.out hb); replace BK7 := Aside0.mk (blk_below BK7.out hb); replace BK14 := Aside0.mk (blk_below BK14.out hb); have GBK29 := Aside0.mk (show gb29 = w92.heap.size ∧ gb29 < w106.heap.size from ⟨hg, blk_lt hbox⟩); have GW29 := Aside0.mk (show w.heap.size ≤ gb29 by have q_ := below_size HB.out; rw [hg]; exact q_); have BK29 := Aside0.mk hbox; replace HB := Aside0.mk (below_step HB.out hb); replace HL := Aside0.mk (And.intro HL.out (below_size hb)); clear hb hbox hg; clear hcz94 hfz95 hcz96 hfz97 hcz98 hfz99 hcz100 hfz101 hcz102 hfz103 hcz104 hfz105; have hcz107 : w106.cell? ⟨gb7, 0, none⟩ = some (.slice A5 t2.length c5) := (blk_cell BK7.out 0).trans rfl; have hfz108 := blk_frozen BK7.out 0; have hcz109 : w106.cell? ⟨gb7, 1, none⟩ = some (.slice A6 t3.length c6) := (blk_cell BK7.out 1).trans rfl; have hfz110 := blk_frozen BK7.out 1; have hcz111 : w106.cell? ⟨gb7, 2, none⟩ = some (.int .i64 t4) := (blk_cell BK7.out 2).trans rfl; have hfz112 := blk_frozen BK7.out 2; have hcz113 : w106.cell? ⟨gb14, 0, none⟩ = some (.slice A12 t9.length c12) := (blk_cell BK14.out 0).trans rfl; have hfz114 := blk_frozen BK14.out 0; have hcz115 : w106.cell? ⟨gb14, 1, none⟩ = some (.slice A13 t10.length c13) := (blk_cell BK14.out 1).trans rfl; have hfz116 := blk_frozen BK14.out 1; have hcz117 : w106.cell? ⟨gb14, 2, none⟩ = some (.int .i64 t11) := (blk_cell BK14.out 2).trans rfl; have hfz118 := blk_frozen BK14.out 2; have hcz119 : w106.cell? ⟨gb29, 0, none⟩ = some (.slice none 0 0) := (blk_cell BK29.out 0).trans rfl; have hfz120 := blk_frozen BK29.out 0; have hcz121 : w106.cell? ⟨gb29, 1, none⟩ = some (.slice none 0 0) := (blk_cell BK29.out 1).trans rfl; have hfz122 := blk_frozen BK29.out 1; have hcz123 : w106.cell? ⟨gb29, 2, none⟩ = some (.int .i64 0) := (blk_cell BK29.out 2).trans rfl; have hfz124 := blk_frozen BK29.out 2) | ((with_reducible refine gate_store (t := 27) (p := 5) rfl ?_); refine store_event (t := 27) (p := 5) (v := ?vo126_) (w1 := (((w106.setCell ⟨gb29, 0, none⟩ (.slice A27 t24.length c27)).setCell ⟨gb29, 1, none⟩ (.slice A28 t25.length c28)).setCell ⟨gb29, 2, none⟩ (.int .i64 t26))) ?hg ?ho ?hn ?hr ?_; (case ho => rfl); (case hg => rfl); (case hn => rfl); (case hr => first | (go_simp; done) | (go_simp; rfl)); intro w125 hw; have hk : Kept w106 w125 (fun k_ => k_ = gb29) := (by rw [hw]; exact (Kept.setCell (Kept.setCell (Kept.setCell (Kept.refl w106 (fun k_ => k_ = gb29)) (p := ⟨gb29, 0, none⟩) (.inl rfl) (.slice A27 t24.length c27)) (p := ⟨gb29, 1, none⟩) (.inl rfl) (.slice A28 t25.length c28)) (p := ⟨gb29, 2, none⟩) (.inl rfl) (.int .i64 t26))); have g0_ := GBK29.out; replace HZ5 := Aside0.mk (Kd.R_kept HZ5.out hk (fun k_ (hk_ : ((w.heap.size ≤ k_ ∧ k_ < w1.heap.size) ∧ TA2 k_)) (hs_ : k_ = gb29) => by have q_ := HL.out; first | omega | exact DD2.out k_ hk_.2 hs_.2 | exact DD2.out k_ hs_.2 hk_.2 | exact DD19.out k_ hk_.2 hs_.2 | exact DD19.out k_ hs_.2 hk_.2 | exact DD93.out k_ hk_.2 hs_.2 | exact DD93.out k_ hs_.2 hk_.2 | (rcases hk_ with hk_ | hk_ <;> first | omega | exact DD2.out k_ hk_.2 hs_.2 | exact DD2.out k_ hs_.2 hk_.2 | exact DD19.out k_ hk_.2 hs_.2 | exact DD19.out k_ hs_.2 hk_.2 | exact DD93.out k_ hk_.2 hs_.2 | exact DD93.out k_ hs_.2 hk_.2) | (rcases hs_ with hs_ | hs_ <;> first | omega | exact DD2.out k_ hk_.2 hs_.2 | exact DD2.out k_ hs_.2 hk_.2 | exact DD19.out k_ hk_.2 hs_.2 | exact DD19.out k_ hs_.2 hk_.2 | exact DD93.out k_ hk_.2 hs_.2 | exact DD93.out k_ hs_.2 hk_.2))); replace HZ6 := Aside0.mk (Kd.S_kept HZ6.out hk (fun k_ (hk_ : ((w.heap.size ≤ k_ ∧ k_ < w1.heap.size) ∧ TB2 k_)) (hs_ : k_ = gb29) => by have q_ := HL.out; first | omega | exact DD2.out k_ hk_.2 hs_.2 | exact DD2.out k_ hs_.2 hk_.2 | exact DD19.out k_ hk_.2 hs_.2 | exact DD19.out k_ hs_.2 hk_.2 | exact DD93.out k_ hk_.2 hs_.2 | exact DD93.out k_ hs_.2 hk_.2 | (rcases hk_ with hk_ | hk_ <;> first | omega | exact DD2.out k_ hk_.2 hs_.2 | exact DD2.out k_ hs_.2 hk_.2 | exact DD19.out k_ hk_.2 hs_.2 | exact DD19.out k_ hs_.2 hk_.2 | exact DD93.out k_ hk_.2 hs_.2 | exact DD93.out k_ hs_.2 hk_.2) | (rcases hs_ with hs_ | hs_ <;> first | omega | exact DD2.out k_ hk_.2 hs_.2 | exact DD2.out k_ hs_.2 hk_.2 | exact DD19.out k_ hk_.2 hs_.2 | exact DD19.out k_ hs_.2 hk_.2 | exact DD93.out k_ hk_.2 hs_.2 | exact DD93.out k_ hs_.2 hk_.2))); replace HZ12 := Aside0.mk (Kd.R_kept HZ12.out hk (fun k_ (hk_ : (((w10.heap.size ≤ k_ ∧ k_ < w18.heap.size) ∧ TA19 k_) ∨ (w53.heap.size ≤ k_ ∧ k_ < w66.heap.size))) (hs_ : k_ = gb29) => by have q_ := HL.out; first | omega | exact DD2.out k_ hk_.2 hs_.2 | exact DD2.out k_ hs_.2 hk_.2 | exact DD19.out k_ hk_.2 hs_.2 | exact DD19.out k_ hs_.2 hk_.2 | exact DD93.out k_ hk_.2 hs_.2 | exact DD93.out k_ hs_.2 hk_.2 | (rcases hk_ with hk_ | hk_ <;> first | omega | exact DD2.out k_ hk_.2 hs_.2 | exact DD2.out k_ hs_.2 hk_.2 | exact DD19.out k_ hk_.2 hs_.2 | exact DD19.out k_ hs_.2 hk_.2 | exact DD93.out k_ hk_.2 hs_.2 | exact DD93.out k_ hs_.2 hk_.2) | (rcases hs_ with hs_ | hs_ <;> first | omega | exact DD2.out k_ hk_.2 hs_.2 | exact DD2.out k_ hs_.2 hk_.2 | exact DD19.out k_ hk_.2 hs_.2 | exact DD19.out k_ hs_.2 hk_.2 | exact DD93.out k_ hk_.2 hs_.2 | exact DD93.out k_ hs_.2 hk_.2))); replace HZ13 := Aside0.mk (Kd.S_kept HZ13.out hk (fun k_ (hk_ : (((w10.heap.size ≤ k_ ∧ k_ < w18.heap.size) ∧ TB19 k_) ∨ (w53.heap.size ≤ k_ ∧ k_ < w66.heap.size))) (hs_ : k_ = gb29) => by have q_ := HL.out; first | omega | exact DD2.out k_ hk_.2 hs_.2 | exact DD2.out k_ hs_.2 hk_.2 | exact DD19.out k_ hk_.2 hs_.2 | exact DD19.out k_ hs_.2 hk_.2 | exact DD93.out k_ hk_.2 hs_.2 | exact DD93.out k_ hs_.2 hk_.2 | (rcases hk_ with hk_ | hk_ <;> first | omega | exact DD2.out k_ hk_.2 hs_.2 | exact DD2.out k_ hs_.2 hk_.2 | exact DD19.out k_ hk_.2 hs_.2 | exact DD19.out k_ hs_.2 hk_.2 | exact DD93.out k_ hk_.2 hs_.2 | exact DD93.out k_ hs_.2 hk_.2) | (rcases hs_ with hs_ | hs_ <;> first | omega | exact DD2.out k_ hk_.2 hs_.2 | exact DD2.out k_ hs_.2 hk_.2 | exact DD19.out k_ hk_.2 hs_.2 | exact DD19.out k_ hs_.2 hk_.2 | exact DD93.out k_ hk_.2 hs_.2 | exact DD93.out k_ hs_.2 hk_.2))); replace HZ27 := Aside0.mk (Kd.R_kept HZ27.out hk (fun k_ (hk_ : ((w79.heap.size ≤ k_ ∧ k_ < w92.heap.size) ∧ TA93 k_)) (hs_ : k_ = gb29) => by have q_ := HL.out; first | omega | exact DD2.out k_ hk_.2 hs_.2 | exact DD2.out k_ hs_.2 hk_.2 | exact DD19.out k_ hk_.2 hs_.2 | exact DD19.out k_ hs_.2 hk_.2 | exact DD93.out k_ hk_.2 hs_.2 | exact DD93.out k_ hs_.2 hk_.2 | (rcases hk_ with hk_ | hk_ <;> first | omega | exact DD2.out k_ hk_.2 hs_.2 | exact DD2.out k_ hs_.2 hk_.2 | exact DD19.out k_ hk_.2 hs_.2 | exact DD19.out k_ hs_.2 hk_.2 | exact DD93.out k_ hk_.2 hs_.2 | exact DD93.out k_ hs_.2 hk_.2) | (rcases hs_ with hs_ | hs_ <;> first | omega | exact DD2.out k_ hk_.2 hs_.2 | exact DD2.out k_ hs_.2 hk_.2 | exact DD19.out k_ hk_.2 hs_.2 | exact DD19.out k_ hs_.2 hk_.2 | exact DD93.out k_ hk_.2 hs_.2 | exact DD93.out k_ hs_.2 hk_.2))); replace HZ28 := Aside0.mk (Kd.S_kept HZ28.out hk (fun k_ (hk_ : ((w79.heap.size ≤ k_ ∧ k_ < w92.heap.size) ∧ TB93 k_)) (hs_ : k_ = gb29) => by have q_ := HL.out; first | omega | exact DD2.out k_ hk_.2 hs_.2 | exact DD2.out k_ hs_.2 hk_.2 | exact DD19.out k_ hk_.2 hs_.2 | exact DD19.out k_ hs_.2 hk_.2 | exact DD93.out k_ hk_.2 hs_.2 | exact DD93.out k_ hs_.2 hk_.2 | (rcases hk_ with hk_ | hk_ <;> first | omega | exact DD2.out k_ hk_.2 hs_.2 | exact DD2.out k_ hs_.2 hk_.2 | exact DD19.out k_ hk_.2 hs_.2 | exact DD19.out k_ hs_.2 hk_.2 | exact DD93.out k_ hk_.2 hs_.2 | exact DD93.out k_ hs_.2 hk_.2) | (rcases hs_ with hs_ | hs_ <;> first | omega | exact DD2.out k_ hk_.2 hs_.2 | exact DD2.out k_ hs_.2 hk_.2 | exact DD19.out k_ hk_.2 hs_.2 | exact DD19.out k_ hs_.2 hk_.2 | exact DD93.out k_ hk_.2 hs_.2 | exact DD93.out k_ hs_.2 hk_.2))); replace BK7 := Aside0.mk (blk_kept BK7.out hk (fun hs_ => by have q_ := HL.out; have g_ := GBK7.out; have hs2_ : gb7 = gb29 := hs_; omega)); replace BK14 := Aside0.mk (blk_kept BK14.out hk (fun hs_ => by have q_ := HL.out; have g_ := GBK14.out; have hs2_ : gb14 = gb29 := hs_; omega)); clear g0_; replace BK29 := Aside0.mk (show w125.heap[gb29]? = some (.cells #[.slice A27 t24.length c27, .slice A28 t25.length c28, .int .i64 t26] 27 (0, 0)) from (by rw [hw]; exact (blk_put (cs := #[.slice A27 t24.length c27, .slice A28 t25.length c28, .int .i64 0]) (cs' := #[.slice A27 t24.length c27, .slice A28 t25.length c28, .int .i64 t26]) (blk_put (cs := #[.slice A27 t24.length c27, .slice none 0 0, .int .i64 0]) (cs' := #[.slice A27 t24.length c27, .slice A28 t25.length c28, .int .i64 0]) (blk_put (cs := #[.slice none 0 0, .slice none 0 0, .int .i64 0]) (cs' := #[.slice A27 t24.length c27, .slice none 0 0, .int .i64 0]) BK29.out 0 _ rfl) 1 _ rfl) 2 _ rfl))); replace HB := Aside0.mk (show Below w.heap.size w w125 from (by rw [hw]; exact (below_set (below_set (below_set HB.out GW29.out) GW29.out) GW29.out))); replace HL := Aside0.mk (And.intro HL.out hk.1); clear hk hw; clear hcz107 hfz108 hcz109 hfz110 hcz111 hfz112 hcz113 hfz114 hcz115 hfz116 hcz117 hfz118 hcz119 hfz120 hcz121 hfz122 hcz123 hfz124; have hcz127 : w125.cell? ⟨gb7, 0, none⟩ = some (.slice A5 t2.length c5) := (blk_cell BK7.out 0).trans rfl; have hfz128 := blk_frozen BK7.out 0; have hcz129 : w125.cell? ⟨gb7, 1, none⟩ = some (.slice A6 t3.length c6) := (blk_cell BK7.out 1).trans rfl; have hfz130 := blk_frozen BK7.out 1; have hcz131 : w125.cell? ⟨gb7, 2, none⟩ = some (.int .i64 t4) := (blk_cell BK7.out 2).trans rfl; have hfz132 := blk_frozen BK7.out 2; have hcz133 : w125.cell? ⟨gb14, 0, none⟩ = some (.slice A12 t9.length c12) := (blk_cell BK14.out 0).trans rfl; have hfz134 := blk_frozen BK14.out 0; have hcz135 : w125.cell? ⟨gb14, 1, none⟩ = some (.slice A13 t10.length c13) := (blk_cell BK14.out 1).trans rfl; have hfz136 := blk_frozen BK14.out 1; have hcz137 : w125.cell? ⟨gb14, 2, none⟩ = some (.int .i64 t11) := (blk_cell BK14.out 2).trans rfl; have hfz138 := blk_frozen BK14.out 2; have hcz139 : w125.cell? ⟨gb29, 0, none⟩ = some (.slice A27 t24.length c27) := (blk_cell BK29.out 0).trans rfl; have hfz140 := blk_frozen BK29.out 0; have hcz141 : w125.cell? ⟨gb29, 1, none⟩ = some (.slice A28 t25.length c28) := (blk_cell BK29.out 1).trans rfl; have hfz142 := blk_frozen BK29.out 1; have hcz143 : w125.cell? ⟨gb29, 2, none⟩ = some (.int .i64 t26) := (blk_cell BK29.out 2).trans rfl; have hfz144 := blk_frozen BK29.out 2) | ((with_reducible refine gate_callee (f := 12) rfl ?_); refine goesL_ (some 26) rfl rfl Try.func12 (by kernel_rfl) rfl #[.agg #[.slice A27 t24.length c27, .slice A28 t25.length c28, .int .i64 t26], .agg #[.slice A5 t2.length c5, .slice A6 t3.length c6, .int .i64 t4]] rfl (by (try simp only [List.map_toArray, List.map_cons, List.map_nil]); first | done | rfl | (simp only [List.length_drop, List.length_take]; rfl)) ?_; (with_reducible refine (laws_eqStore.calls k _ _ t24 _ _ t25 t26 _ _ t2 _ _ t3 t4 true _ ?side1 ?side2 ?side3 ?side4 ?side5 ?side6 ?side7 ?side8 Fa9.out).mono ?_); (case side1 => exact (Kd.R_reads' HZ27.out).2.2); (case side2 => exact (Kd.R_reads' HZ27.out).2.1); (case side3 => exact (Kd.S_reads' HZ28.out).2.2); (case side4 => exact (Kd.S_reads' HZ28.out).2.1); (case side5 => exact (Kd.R_reads' HZ5.out).2.2); (case side6 => exact (Kd.R_reads' HZ5.out).2.1); (case side7 => exact (Kd.S_reads' HZ6.out).2.2); (case side8 => exact (Kd.S_reads' HZ6.out).2.1); rintro e w145 ⟨rfl, hb⟩; refine ⟨_, rfl, ?_⟩; replace HZ5 := Aside0.mk (Kd.R_below HZ5.out hb); replace HZ6 := Aside0.mk (Kd.S_below HZ6.out hb); replace HZ12 := Aside0.mk (Kd.R_below HZ12.out hb); replace HZ13 := Aside0.mk (Kd.S_below HZ13.out hb); replace HZ27 := Aside0.mk (Kd.R_below HZ27.out hb); replace HZ28 := Aside0.mk (Kd.S_below HZ28.out hb); replace BK7 := Aside0.mk (blk_below BK7.out hb); replace BK14 := Aside0.mk (blk_below BK14.out hb); replace BK29 := Aside0.mk (blk_below BK29.out hb); replace HB := Aside0.mk (below_step HB.out hb); replace HL := Aside0.mk (And.intro HL.out (below_size hb)); clear hb; clear hcz127 hfz128 hcz129 hfz130 hcz131 hfz132 hcz133 hfz134 hcz135 hfz136 hcz137 hfz138 hcz139 hfz140 hcz141 hfz142 hcz143 hfz144; have hcz146 : w145.cell? ⟨gb7, 0, none⟩ = some (.slice A5 t2.length c5) := (blk_cell BK7.out 0).trans rfl; have hfz147 := blk_frozen BK7.out 0; have hcz148 : w145.cell? ⟨gb7, 1, none⟩ = some (.slice A6 t3.length c6) := (blk_cell BK7.out 1).trans rfl; have hfz149 := blk_frozen BK7.out 1; have hcz150 : w145.cell? ⟨gb7, 2, none⟩ = some (.int .i64 t4) := (blk_cell BK7.out 2).trans rfl; have hfz151 := blk_frozen BK7.out 2; have hcz152 : w145.cell? ⟨gb14, 0, none⟩ = some (.slice A12 t9.length c12) := (blk_cell BK14.out 0).trans rfl; have hfz153 := blk_frozen BK14.out 0; have hcz154 : w145.cell? ⟨gb14, 1, none⟩ = some (.slice A13 t10.length c13) := (blk_cell BK14.out 1).trans rfl; have hfz155 := blk_frozen BK14.out 1; have hcz156 : w145.cell? ⟨gb14, 2, none⟩ = some (.int .i64 t11) := (blk_cell BK14.out 2).trans rfl; have hfz157 := blk_frozen BK14.out 2; have hcz158 : w145.cell? ⟨gb29, 0, none⟩ = some (.slice A27 t24.length c27) := (blk_cell BK29.out 0).trans rfl; have hfz159 := blk_frozen BK29.out 0; have hcz160 : w145.cell? ⟨gb29, 1, none⟩ = some (.slice A28 t25.length c28) := (blk_cell BK29.out 1).trans rfl; have hfz161 := blk_frozen BK29.out 1; have hcz162 : w145.cell? ⟨gb29, 2, none⟩ = some (.int .i64 t26) := (blk_cell BK29.out 2).trans rfl; have hfz163 := blk_frozen BK29.out 2) | ((with_reducible refine gate_callee (f := 14) rfl ?_); refine goesL_ (some 30) rfl rfl Try.func14 (by kernel_rfl) rfl #[.agg #[.slice A12 t19.length c12, .slice A13 t20.length c13, .int .i64 t11], .int .i64 1] rfl (by (try simp only [List.map_toArray, List.map_cons, List.map_nil]); first | done | (rw [show t19.length = t9.length from (Kd.R_reads' HZ12.out).1.symm, show t20.length = t10.length from (Kd.S_reads' HZ13.out).1.symm] <;> rfl) | rfl | (simp only [List.length_drop, List.length_take]; rfl)) ?_; (with_reducible refine (laws_heldStore.calls k _ _ t19 _ _ t20 t11 1 t33 _ ?side1 ?side2 ?side3 ?side4 Fa11.out).mono ?_); (case side1 => exact (Kd.R_reads' HZ12.out).2.2); (case side2 => have h1_ := (Kd.R_reads' HZ12.out).1; have h2_ := (Kd.R_reads' HZ12.out).2.1; omega); (case side3 => exact (Kd.S_reads' HZ13.out).2.2); (case side4 => have h1_ := (Kd.S_reads' HZ13.out).1; have h2_ := (Kd.S_reads' HZ13.out).2.1; omega); rintro e w164 ⟨rfl, hb⟩; refine ⟨_, rfl, ?_⟩; replace HZ5 := Aside0.mk (Kd.R_below HZ5.out hb); replace HZ6 := Aside0.mk (Kd.S_below HZ6.out hb); replace HZ12 := Aside0.mk (Kd.R_below HZ12.out hb); replace HZ13 := Aside0.mk (Kd.S_below HZ13.out hb); replace HZ27 := Aside0.mk (Kd.R_below HZ27.out hb); replace HZ28 := Aside0.mk (Kd.S_below HZ28.out hb); replace BK7 := Aside0.mk (blk_below BK7.out hb); replace BK14 := Aside0.mk (blk_below BK14.out hb); replace BK29 := Aside0.mk (blk_below BK29.out hb); replace HB := Aside0.mk (below_step HB.out hb); replace HL := Aside0.mk (And.intro HL.out (below_size hb)); clear hb; clear hcz146 hfz147 hcz148 hfz149 hcz150 hfz151 hcz152 hfz153 hcz154 hfz155 hcz156 hfz157 hcz158 hfz159 hcz160 hfz161 hcz162 hfz163; have hcz165 : w164.cell? ⟨gb7, 0, none⟩ = some (.slice A5 t2.length c5) := (blk_cell BK7.out 0).trans rfl; have hfz166 := blk_frozen BK7.out 0; have hcz167 : w164.cell? ⟨gb7, 1, none⟩ = some (.slice A6 t3.length c6) := (blk_cell BK7.out 1).trans rfl; have hfz168 := blk_frozen BK7.out 1; have hcz169 : w164.cell? ⟨gb7, 2, none⟩ = some (.int .i64 t4) := (blk_cell BK7.out 2).trans rfl; have hfz170 := blk_frozen BK7.out 2; have hcz171 : w164.cell? ⟨gb14, 0, none⟩ = some (.slice A12 t9.length c12) := (blk_cell BK14.out 0).trans rfl; have hfz172 := blk_frozen BK14.out 0; have hcz173 : w164.cell? ⟨gb14, 1, none⟩ = some (.slice A13 t10.length c13) := (blk_cell BK14.out 1).trans rfl; have hfz174 := blk_frozen BK14.out 1; have hcz175 : w164.cell? ⟨gb14, 2, none⟩ = some (.int .i64 t11) := (blk_cell BK14.out 2).trans rfl; have hfz176 := blk_frozen BK14.out 2; have hcz177 : w164.cell? ⟨gb29, 0, none⟩ = some (.slice A27 t24.length c27) := (blk_cell BK29.out 0).trans rfl; have hfz178 := blk_frozen BK29.out 0; have hcz179 : w164.cell? ⟨gb29, 1, none⟩ = some (.slice A28 t25.length c28) := (blk_cell BK29.out 1).trans rfl; have hfz180 := blk_frozen BK29.out 1; have hcz181 : w164.cell? ⟨gb29, 2, none⟩ = some (.int .i64 t26) := (blk_cell BK29.out 2).trans rfl; have hfz182 := blk_frozen BK29.out 2))
  go_ret
  exact ⟨rfl, HB.out⟩
end Go.Proofs.Ytijbejiajaiciaa.PC

/- What a law's arguments, read as data, are as the print's kinds. -/
namespace Go.Proofs.Ytijbejiajaiciaa.Open
open Go.RowKit Go.Proofs.YtijbejiajaiciaaW.PrintWords

/-- A datum that is read at type t is of kind d, and each such y meets wf. -/
def Opn {α : Type} (P : Program) (t : TypeId) (d : Kd α) (wf : α → Prop) : Prop :=
  ∀ (H : Type) (enc : TypeId × Value → H) (w : World) (base : Nat) (spare : Nat → Bool) (held : Bool) (fuel : Nat) (cs : List Value) (x : DataW H × List MemPlace),
    DataW.trod enc P w base spare held fuel t cs = some x → ∃ y : α, d.K w y cs ∧ wf y

theorem opn_int {P : Program} {t : TypeId} {k : IntKind} (hu : P.underlying t = some (.int k)) : Opn P t (Kd.int k) (fun n => (Lit.int k n).wf = true) := by
  intro H enc w base spare held fuel cs x h
  obtain ⟨n, rfl, _, hw⟩ := DataW.trod_int hu h
  exact ⟨n, rfl, hw⟩
theorem opn_bool {P : Program} {t : TypeId} (hu : P.underlying t = some .bool) : Opn P t Kd.bool (fun _ => True) := by
  intro H enc w base spare held fuel cs x h
  obtain ⟨n, rfl, _⟩ := DataW.trod_bool hu h
  exact ⟨n, rfl, trivial⟩
theorem opn_string {P : Program} {t : TypeId} (hu : P.underlying t = some .string) : Opn P t Kd.string (fun s => s.size ≤ maxLen) := by
  intro H enc w base spare held fuel cs x h
  obtain ⟨n, rfl, _, hw⟩ := DataW.trod_string hu h
  exact ⟨n, rfl, hw⟩
theorem choose_list {α : Type} {Q : Nat → α → Prop} : ∀ (n : Nat), (∀ i, i < n → ∃ y, Q i y) → ∃ ys : List α, ys.length = n ∧ ∀ i y, ys[i]? = some y → Q i y
  | 0, _ => ⟨[], rfl, fun i y h => by simp at h⟩
  | n + 1, h => by
    obtain ⟨ys, hl, hq⟩ := choose_list n (fun i hi => h i (by omega))
    obtain ⟨y, hy⟩ := h n (by omega)
    refine ⟨ys ++ [y], by simp [hl], fun i z hz => ?_⟩
    rcases Nat.lt_or_ge i ys.length with hi | hi
    · rw [List.getElem?_append_left hi] at hz
      exact hq i z hz
    · rw [List.getElem?_append_right hi] at hz
      have hi2 : i - ys.length = 0 := by
        have := (List.getElem?_eq_some_iff.1 hz).1
        simp at this
        omega
      rw [hi2] at hz
      have : i = n := by omega
      subst this
      simp at hz
      subst hz
      exact hy
theorem adds (a : Addr) (m n : Nat) : (a.add m).add n = a.add (m + n) := by
  unfold Addr.add
  by_cases h1 : m = 0 <;> by_cases h2 : n = 0 <;> simp_all [Nat.add_assoc]
theorem opn_slice {α : Type} {P : Program} {t e : TypeId} {d : Kd α} {wf : α → Prop} (hu : P.underlying t = some (.slice e)) (hc : P.cellsOf e = d.sz) (ho : Opn P e d wf) :
    Opn P t (Kd.slice e d) (fun xs => xs.length ≤ maxLen ∧ ∀ x ∈ xs, wf x) := by
  intro H enc w base spare held fuel cs x h
  rcases DataW.trod_slice hu h with ⟨rfl, _⟩ | ⟨a, len, cap, elems, rest, n, _, rfl, _, hb, hl, hm, hlen, hel, _, _⟩
  · refine ⟨[], ⟨none, 0, rfl, Nat.le_refl _, rfl, by simp, fun h0 => absurd h0 (by simp)⟩, by simp, fun x hx => absurd hx (by simp)⟩
  · have each : ∀ i, i < len → ∃ y : α, ∃ c : List Value, (c.length = d.sz ∧ d.K w y c ∧ ∀ j u, c[j]? = some u → w.cell? (a.add (i * d.sz + j)) = some u) ∧ wf y := by
      intro i hi
      have h1 := hel i hi
      rw [List.getElem?_eq_getElem (by omega), Option.bind_eq_some_iff, hc] at h1
      obtain ⟨c, h2, h3⟩ := h1
      obtain ⟨_, hcl, hcell⟩ := World.cells?_some h2
      obtain ⟨y, hk, hw⟩ := ho H enc w base spare held n c _ h3
      refine ⟨y, c, ⟨hcl, hk, fun j u hj => ?_⟩, hw⟩
      have hjl : j < c.length := (List.getElem?_eq_some_iff.1 hj).1
      rw [← adds, hcell j (by omega), hj]
    obtain ⟨ys, hyl, hys⟩ := choose_list len each
    have hml : len ≤ maxLen := Nat.le_trans hl hm
    refine ⟨ys, ⟨some a, cap, by rw [hyl], by rw [hyl]; exact hl, rfl, by rw [hyl]; simpa only [maxLen] using hml, fun _ => ⟨a, rfl, fun j p hj => ?_⟩⟩, by rw [hyl]; exact hml, fun y hy => ?_⟩
    · obtain ⟨c, hq, _⟩ := hys j p hj
      exact ⟨c, hq⟩
    · obtain ⟨j, hj, he⟩ := List.getElem_of_mem hy
      obtain ⟨_, _, hw⟩ := hys j y (by rw [List.getElem?_eq_getElem hj, he])
      exact hw

/-- The fields fs, read off the cells from off on, are of kind d. -/
def OpnF {α : Type} (P : Program) (fs : List Field) (off : Nat) (d : Kd α) (wf : α → Prop) : Prop :=
  ∀ (H : Type) (enc : TypeId × Value → H) (w : World) (base : Nat) (spare : Nat → Bool) (held : Bool) (fuel : Nat) (cs : List Value), cs.length = off + d.sz →
    (∀ f ∈ fs, ∃ x, DataW.trod enc P w base spare held fuel f.type ((cs.drop f.offset).take (P.cellsOf f.type)) = some x) → ∃ y : α, d.K w y (cs.drop off) ∧ wf y
theorem opnF_one {α : Type} {P : Program} {f : Field} {off : Nat} {d : Kd α} {wf : α → Prop} (hoff : f.offset = off) (hc : P.cellsOf f.type = d.sz) (ho : Opn P f.type d wf) : OpnF P [f] off d wf := by
  intro H enc w base spare held fuel cs hl h
  obtain ⟨x, hx⟩ := h f (by simp)
  obtain ⟨y, hk, hw⟩ := ho H enc w base spare held fuel _ x hx
  rw [hoff, hc, List.take_of_length_le (by rw [List.length_drop]; omega)] at hk
  exact ⟨y, hk, hw⟩
theorem opnF_cons {α β : Type} {P : Program} {f : Field} {fs : List Field} {off : Nat} {a : Kd α} {b : Kd β} {wa : α → Prop} {wb : β → Prop} (hoff : f.offset = off) (hc : P.cellsOf f.type = a.sz) (ho : Opn P f.type a wa) (hr : OpnF P fs (off + a.sz) b wb) :
    OpnF P (f :: fs) off (Kd.pair a b) (fun p => wa p.1 ∧ wb p.2) := by
  intro H enc w base spare held fuel cs hl h
  obtain ⟨x, hx⟩ := h f (by simp)
  obtain ⟨y, hk, hw⟩ := ho H enc w base spare held fuel _ x hx
  have hsz : (Kd.pair a b).sz = a.sz + b.sz := rfl
  obtain ⟨z, hk2, hw2⟩ := hr H enc w base spare held fuel cs (by omega) (fun g hg => h g (List.mem_cons_of_mem _ hg))
  rw [hoff, hc] at hk
  refine ⟨(y, z), ⟨(cs.drop off).take a.sz, cs.drop (off + a.sz), ?_, hk, hk2⟩, hw, hw2⟩
  rw [← List.drop_drop, List.take_append_drop]
theorem opn_tuple {α : Type} {P : Program} {t : TypeId} {fs : List Field} {d : Kd α} {wf : α → Prop} (hu : P.underlying t = some (.struct fs.toArray)) (hc : P.cellsOf t = d.sz) (ho : OpnF P fs 0 d wf) :
    Opn P t d wf := by
  intro H enc w base spare held fuel cs x h
  obtain ⟨xs, n, _, _, hl, hlen, hf⟩ := DataW.trod_struct hu h
  obtain ⟨y, hk, hw⟩ := ho H enc w base spare held n cs (by omega) (fun fl hfl => by
    obtain ⟨i, hi, he⟩ := List.getElem_of_mem hfl
    have h1 := hf i fl (by simpa using (List.getElem?_eq_getElem hi).trans (congrArg some he))
    have hlen2 : xs.length = fs.length := by simpa using hlen
    exact ⟨xs[i]'(by omega), by rw [h1, List.getElem?_eq_getElem]⟩)
  exact ⟨y, by simpa using hk, hw⟩
theorem opn_struct {α β : Type} {P : Program} {t : TypeId} {fs : List Field} {d : Kd α} {wf : α → Prop} (f : β → α) (g : α → β) (hfg : ∀ a, f (g a) = a) (hu : P.underlying t = some (.struct fs.toArray)) (hc : P.cellsOf t = d.sz) (ho : OpnF P fs 0 d wf) :
    Opn P t (Kd.iso d f) (fun y => wf (f y)) := by
  intro H enc w base spare held fuel cs x h
  obtain ⟨xs, n, _, _, hl, hlen, hf⟩ := DataW.trod_struct hu h
  obtain ⟨y, hk, hw⟩ := ho H enc w base spare held n cs (by omega) (fun fl hfl => by
    obtain ⟨i, hi, he⟩ := List.getElem_of_mem hfl
    have h1 := hf i fl (by simpa using (List.getElem?_eq_getElem hi).trans (congrArg some he))
    have hlen2 : xs.length = fs.length := by simpa using hlen
    exact ⟨xs[i]'(by omega), by rw [h1, List.getElem?_eq_getElem]⟩)
  exact ⟨g y, by show d.K w (f (g y)) cs; rw [hfg]; simpa using hk, by show wf (f (g y)); rw [hfg]; exact hw⟩
end Go.Proofs.Ytijbejiajaiciaa.Open

/- Plain facts on rounds, lists and whole numbers, for the pure statements. -/
namespace Go.Proofs.Ytijbejiajaiciaa.Pu
set_option linter.unusedVariables false
set_option linter.unusedSimpArgs false
open Go.RowKit Go.Proofs.YtijbejiajaiciaaW.PrintWords

theorem w64 {x : Int} (h1 : -9223372036854775808 ≤ x) (h2 : x ≤ 9223372036854775807) : wrap64 x = x := by
  unfold wrap64; omega
theorem wsucc {i n : Nat} (h : i < n) (hn : n ≤ 9223372036854775807) : wrap64 ((i : Int) + 1) = ((i + 1 : Nat) : Int) := by
  rw [w64 (by omega) (by omega)]; rfl
theorem wf_i64 {n : Int} (h : (Lit.int .i64 n).wf = true) : -9223372036854775808 ≤ n ∧ n ≤ 9223372036854775807 := by
  simp only [Lit.wf, Bool.and_eq_true, decide_eq_true_eq] at h
  have h1 : IntKind.min .i64 = -9223372036854775808 := by decide
  have h2 : IntKind.max .i64 = 9223372036854775807 := by decide
  omega

/-- Rounds: what is told, a step on. -/
theorem ev_some {α : Type} {g : Nat → Option α} {r : α} (h : ∀ k, g (k + 1) = some r) : Ev g r := Ev.step h (Ev.now r)
theorem ev_const {α : Type} {o : Option α} {r : α} (h : o = some r) : Ev (fun _ => o) r := ⟨0, fun _ _ => h⟩
theorem ev_bind {α β : Type} {g : Nat → Option α} {f : Nat → α → Option β} {a : α} {r : β} (h : Ev g a) (k : Ev (fun n => f n a) r) : Ev (fun n => (g n).bind (f n)) r := Ev.bind h k
theorem ev_uniq {α : Type} {g : Nat → Option α} {a b : α} (h : Ev g a) (k : Ev g b) : a = b := by
  obtain ⟨K, hK⟩ := h
  obtain ⟨M, hM⟩ := k
  have h1 := hK (max K M) (Nat.le_max_left _ _)
  rw [hM (max K M) (Nat.le_max_right _ _)] at h1
  injection h1 with h1
  exact h1.symm
theorem ev_ext {α : Type} {g f : Nat → Option α} {r : α} (h : ∀ k, g k = f k) (k : Ev f r) : Ev g r := Ev.congr h k

/-- A row that is made and filled, place by place. -/
theorem ev_fill {β : Type} {L : Nat → List β → Int → Option (List β)} {E : Nat → Int → Option β} {n : Nat} {e : Nat → β} (hn : n ≤ 9223372036854775807)
    (hs : ∀ k xs i, L (k + 1) xs i = if i < (n : Int) then (if 0 ≤ i then ((E k i).bind fun b => if i < (xs.length : Int) then L k (xs.set i.toNat b) (wrap64 (i + 1)) else none) else none) else some xs)
    (hE : ∀ i, i < n → Ev (fun k => E k (i : Int)) (e i)) :
    ∀ (d i : Nat) (xs : List β), xs.length = n → i + d = n → Ev (fun k => L k xs (i : Int)) (xs.take i ++ (List.range' i d).map e) := by
  intro d
  induction d with
  | zero =>
    intro i xs hl hi
    refine ev_some fun k => ?_
    rw [hs, if_neg (by omega)]
    simp [List.take_of_length_le (show xs.length ≤ i by omega)]
  | succ d ih =>
    intro i xs hl hi
    refine Ev.step (f := fun k => (E k (i : Int)).bind fun b => L k (xs.set i b) ((i + 1 : Nat) : Int)) (fun k => ?_) ?_
    · rw [hs, if_pos (by omega), if_pos (by omega), wsucc (n := n) (by omega) hn]
      congr 1
      funext b
      rw [if_pos (by omega)]
      rfl
    · refine ev_bind (hE i (by omega)) ?_
      have h := ih (i + 1) (xs.set i (e i)) (by rw [List.length_set]; exact hl) (by omega)
      have e1 : (xs.set i (e i)).take (i + 1) ++ (List.range' (i + 1) d).map e = xs.take i ++ (List.range' i (d + 1)).map e := by
        rw [List.range'_succ, List.map_cons, List.take_succ_eq_append_getElem (by rw [List.length_set]; omega), List.getElem_set_self, List.take_set_of_le (Nat.le_refl _)]
        simp
      rw [e1] at h
      exact h
theorem map_range {α β : Type} (l : List α) (z : α) (g : α → β) : (List.range' 0 l.length).map (fun i => g (l.getD i z)) = l.map g := by
  apply List.ext_getElem
  · simp
  · intro i h1 h2
    simp only [List.length_map] at h2
    simp [List.getD_eq_getElem?_getD, List.getElem?_eq_getElem h2]
theorem ev_fill_all {α β : Type} {L : Nat → List β → Int → Option (List β)} {E : Nat → Int → Option β} {l : List α} {z : α} {g : α → β} {xs : List β} (hn : l.length ≤ 9223372036854775807)
    (hs : ∀ k xs i, L (k + 1) xs i = if i < (l.length : Int) then (if 0 ≤ i then ((E k i).bind fun b => if i < (xs.length : Int) then L k (xs.set i.toNat b) (wrap64 (i + 1)) else none) else none) else some xs)
    (hE : ∀ i, i < l.length → Ev (fun k => E k (i : Int)) (g (l.getD i z))) (hx : xs.length = l.length) : Ev (fun k => L k xs 0) (l.map g) := by
  have h := ev_fill (e := fun i => g (l.getD i z)) hn hs hE l.length 0 xs hx (by omega)
  rw [map_range] at h
  simpa using h

/-- Every place meets a test, tried place by place. -/
theorem ev_all {L E : Nat → Int → Option Bool} {n m : Nat} (hn : n ≤ 9223372036854775807) (hnm : n ≤ m)
    (hs : ∀ k i, L (k + 1) i = if i < (n : Int) then (if 0 ≤ i then (if i < (m : Int) then ((E k i).bind fun b => if b = true then L k (wrap64 (i + 1)) else some false) else none) else none) else some true)
    (hE : ∀ i, i < n → Ev (fun k => E k (i : Int)) true) : ∀ (d i : Nat), i + d = n → Ev (fun k => L k (i : Int)) true := by
  intro d
  induction d with
  | zero => intro i hi; exact ev_some fun k => by rw [hs, if_neg (by omega)]
  | succ d ih =>
    intro i hi
    refine Ev.step (f := fun k => (E k (i : Int)).bind fun b => if b = true then L k ((i + 1 : Nat) : Int) else some false) (fun k => ?_) (ev_bind (hE i (by omega)) (by simpa using ih (i + 1) (by omega)))
    rw [hs, if_pos (by omega), if_pos (by omega), if_pos (by omega), wsucc (n := n) (by omega) hn]

/-- What is left of a number, place by place, as long as it is not below 0. -/
theorem ev_size {L E : Nat → Int → Int → Option Int} {n : Nat} {P : Nat → Prop} (hn : n ≤ 9223372036854775807)
    (hs : ∀ k a i, L (k + 1) a i = if i < (n : Int) then (if 0 ≤ i then ((E k i a).bind fun t => if t < 0 then some (-1) else L k t (wrap64 (i + 1))) else none) else some a)
    (hE : ∀ i a, i < n → 0 ≤ a → a ≤ 1048576 → ∃ t, Ev (fun k => E k (i : Int) a) t ∧ t ≤ a ∧ (0 ≤ t → P i)) :
    ∀ (d i : Nat) (a : Int), i + d = n → 0 ≤ a → a ≤ 1048576 → ∃ r, Ev (fun k => L k a (i : Int)) r ∧ r ≤ a ∧ (0 ≤ r → ∀ m, i ≤ m → m < n → P m) := by
  intro d
  induction d with
  | zero => intro i a hi h0 h1; exact ⟨a, ev_some fun k => by rw [hs, if_neg (by omega)], Int.le_refl _, fun _ m h2 h3 => by omega⟩
  | succ d ih =>
    intro i a hi h0 h1
    obtain ⟨t, ht, hta, hp⟩ := hE i a (by omega) h0 h1
    have hst : ∀ k, L (k + 1) a (i : Int) = (E k (i : Int) a).bind fun t => if t < 0 then some (-1) else L k t ((i + 1 : Nat) : Int) := fun k => by
      rw [hs, if_pos (by omega), if_pos (by omega), wsucc (n := n) (by omega) hn]
    by_cases hneg : t < 0
    · exact ⟨-1, Ev.step hst (ev_bind ht (by simp only [if_pos hneg]; exact Ev.now _)), by omega, fun h => by omega⟩
    · obtain ⟨r, hr, hra, hq⟩ := ih (i + 1) t (by omega) (by omega) (by omega)
      refine ⟨r, Ev.step hst (ev_bind ht (by simp only [if_neg hneg]; exact hr)), by omega, fun h0r m h2 h3 => ?_⟩
      by_cases e : m = i
      · subst e; exact hp (by omega)
      · exact hq h0r m (by omega) h3
end Go.Proofs.Ytijbejiajaiciaa.Pu

/- More plain facts on rounds: tests in a row, folds, searches. -/
namespace Go.Proofs.Ytijbejiajaiciaa.Pu
set_option linter.unusedVariables false
set_option linter.unusedSimpArgs false
open Go.RowKit Go.Proofs.YtijbejiajaiciaaW.PrintWords

/-- Tests in a row, one a round; then what comes. -/
theorem ev_scan {L : Nat → Int → Option Bool} {g : Nat → Option Bool} {n : Nat} {T : Nat → Bool} {r : Bool}
    (hs : ∀ k i, i < n → L (k + 1) (i : Int) = if T i = true then L k ((i + 1 : Nat) : Int) else some false) (he : ∀ k, L (k + 1) (n : Int) = g k) (hr : Ev g r) :
    ∀ (d i : Nat), i + d = n → Ev (fun k => L k (i : Int)) ((List.range' i d).all T && r) := by
  intro d
  induction d with
  | zero =>
    intro i hi
    obtain rfl : i = n := by omega
    exact Ev.step he hr
  | succ d ih =>
    intro i hi
    rw [List.range'_succ, List.all_cons]
    by_cases h : T i = true
    · rw [h, Bool.true_and]
      exact Ev.step (fun k => by rw [hs k i (by omega), if_pos h]) (ih (i + 1) (by omega))
    · rw [Bool.eq_false_iff.mpr h, Bool.false_and, Bool.false_and]
      exact ev_some fun k => by rw [hs k i (by omega), if_neg h]
/-- Tests in a row, each of many rounds; then what comes. -/
theorem ev_outer {L : Nat → Int → Option Bool} {n : Nat} {T : Nat → Bool} {r0 : Bool}
    (hs : ∀ i r, i < n → Ev (fun k => L k ((i + 1 : Nat) : Int)) r → Ev (fun k => L k (i : Int)) (T i && r)) (he : Ev (fun k => L k (n : Int)) r0) :
    ∀ (d i : Nat), i + d = n → Ev (fun k => L k (i : Int)) ((List.range' i d).all T && r0) := by
  intro d
  induction d with
  | zero =>
    intro i hi
    obtain rfl : i = n := by omega
    exact he
  | succ d ih =>
    intro i hi
    rw [List.range'_succ, List.all_cons, Bool.and_assoc]
    exact hs i _ (by omega) (ih (i + 1) (by omega))
/-- A state that is carried along; then what comes. -/
theorem ev_fold {σ ρ : Type} {L : Nat → σ → Int → Option ρ} {n : Nat} {F : σ → Nat → σ} {fin : σ → ρ} (Inv : Nat → σ → Prop)
    (hs : ∀ s i, i < n → Inv i s → ∀ r, Ev (fun k => L k (F s i) ((i + 1 : Nat) : Int)) r → Ev (fun k => L k s (i : Int)) r) (hi : ∀ s i, i < n → Inv i s → Inv (i + 1) (F s i))
    (he : ∀ s, Inv n s → Ev (fun k => L k s (n : Int)) (fin s)) : ∀ (d i : Nat) (s : σ), i + d = n → Inv i s → Ev (fun k => L k s (i : Int)) (fin ((List.range' i d).foldl F s)) := by
  intro d
  induction d with
  | zero =>
    intro i s h hv
    obtain rfl : i = n := by omega
    exact he s hv
  | succ d ih =>
    intro i s h hv
    rw [List.range'_succ, List.foldl_cons]
    exact hs s i (by omega) hv _ (ih (i + 1) (F s i) (by omega) (hi s i (by omega) hv))
/-- The first place that meets a test, -1 without one. -/
def findI (T : Nat → Bool) : Nat → Nat → Int
  | _, 0 => -1
  | i, d + 1 => if T i = true then (i : Int) else findI T (i + 1) d
theorem ev_find {L : Nat → Int → Option Int} {n : Nat} {T : Nat → Bool}
    (hy : ∀ i, i < n → T i = true → Ev (fun k => L k (i : Int)) (i : Int)) (hn : ∀ i, i < n → T i = false → ∀ r, Ev (fun k => L k ((i + 1 : Nat) : Int)) r → Ev (fun k => L k (i : Int)) r)
    (he : Ev (fun k => L k (n : Int)) (-1)) : ∀ (d i : Nat), i + d = n → Ev (fun k => L k (i : Int)) (findI T i d) := by
  intro d
  induction d with
  | zero =>
    intro i hi
    obtain rfl : i = n := by omega
    exact he
  | succ d ih =>
    intro i hi
    unfold findI
    by_cases h : T i = true
    · rw [if_pos h]; exact hy i (by omega) h
    · rw [if_neg h]; exact hn i (by omega) (Bool.eq_false_iff.mpr h) _ (ih (i + 1) (by omega))
theorem findI_range {T : Nat → Bool} : ∀ (d i : Nat), findI T i d = -1 ∨ ∃ j, i ≤ j ∧ j < i + d ∧ findI T i d = (j : Int) ∧ T j = true
  | 0, i => .inl rfl
  | d + 1, i => by
    unfold findI
    by_cases h : T i = true
    · rw [if_pos h]; exact .inr ⟨i, Nat.le_refl _, by omega, rfl, h⟩
    · rw [if_neg h]
      rcases findI_range d (i + 1) with h1 | ⟨j, h1, h2, h3, h4⟩
      · exact .inl h1
      · exact .inr ⟨j, by omega, by omega, h3, h4⟩
theorem bytes_empty (a : ByteArray) : (a.toList == ([] : List UInt8)) = decide ((a.size : Int) ≤ 0) := by
  rw [ByteArray.toList_eq]
  have h : a.data.toList.length = a.size := by rw [Array.length_toList]; rfl
  cases e : a.data.toList with
  | nil =>
    have h1 : a.size = 0 := by rw [← h, e]; rfl
    rw [decide_eq_true (by omega)]; rfl
  | cons x l =>
    have h1 : a.size = l.length + 1 := by rw [← h, e]; rfl
    rw [decide_eq_false (by omega)]; rfl
theorem getD_mem' {α : Type} {l : List α} {i : Nat} {z : α} (hi : i < l.length) : l.getD i z ∈ l := by
  rw [List.getD_eq_getElem?_getD, List.getElem?_eq_getElem hi]; exact List.getElem_mem hi
end Go.Proofs.Ytijbejiajaiciaa.Pu

/- FnExactStoreNew: the program's and the reference's new store are one, and the program's is its own. -/
namespace Go.Proofs.Ytijbejiajaiciaa.Pure
set_option linter.unusedVariables false
set_option linter.unusedSimpArgs false
open Go.RowKit Go.Proofs.Ytijbejiajaiciaa.PC Go.Proofs.YtijbejiajaiciaaW.PrintWords Go.Proofs.Ytijbejiajaiciaa.Pu

theorem FnExactStoreNew : ∃ k, laws_FnExactStoreNew.f k  = some true := by
  have hs : spec_StoreNew.f = some (([] : List S124), ([] : List S138), 1) := rfl
  have hi : impl_StoreNew.f = some (([] : List S124), ([] : List S138), 1) := rfl
  have heq : Ev (fun k => laws_eqStore.f k ([] : List S124) ([] : List S138) 1 ([] : List S124) ([] : List S138) 1) true := ⟨3, fun k hk => by
    obtain ⟨k, rfl⟩ : ∃ j, k = j + 3 := ⟨k - 3, by omega⟩
    rfl⟩
  have hm : Ev (fun k => laws_markStore.f k ([] : List S124) ([] : List S138) 1 1) (1, ([] : List S124), ([] : List S138)) := ⟨3, fun k hk => by
    obtain ⟨k, rfl⟩ : ∃ j, k = j + 3 := ⟨k - 3, by omega⟩
    rfl⟩
  have hh : Ev (fun k => laws_heldStore.f k ([] : List S124) ([] : List S138) 1 1) 1 := ⟨3, fun k hk => by
    obtain ⟨k, rfl⟩ : ∃ j, k = j + 3 := ⟨k - 3, by omega⟩
    rfl⟩
  refine Ev.rounds (g := fun k => laws_FnExactStoreNew.f k) ?_
  unfold laws_FnExactStoreNew.f
  rw [hs, hi]
  simp only [Option.bind_some]
  refine ev_bind heq ?_
  simp only [if_true]
  refine ev_bind hm (ev_bind hh ?_)
  simp only [if_true, if_neg (show ¬ (1 : Int) < 0 by omega)]
  refine ev_bind heq ?_
  simp only [if_true]
  refine ev_bind hh ?_
  simp only [if_true, if_neg (show ¬ (1 : Int) < 0 by omega)]
  exact Ev.now _
end Go.Proofs.Ytijbejiajaiciaa.Pure

/- FnExactStoreNew: whatever the input, the law returns true, and its arguments read as they did. The row, out of the law's own walk and the pure statement. -/
namespace Go.Proofs.Ytijbejiajaiciaa.fnExactStoreNew
open Go.ChangeShapes Go.WideShapes Go.ChangeAt Go.RowKit Go.Proofs.Ytijbejiajaiciaa.Open Go.Proofs.YtijbejiajaiciaaW.PrintWords Go.Proofs.Ytijbejiajaiciaa.PC
open Go.ChangeMaps (open_string shut_string)
theorem own : ownKnob Try.prog.godebug = none := by kernel_rfl
theorem laidOut : laidOutB Try.prog = true := by kernel_rfl
set_option maxRecDepth 100000 in
set_option maxHeartbeats 4000000 in
theorem lifted (os : Os) (started : os.Started) (H : Type) (enc : TypeId × Value → H) :
    ReturnsInHanded {} Try.checked os 3 .any (Rows.fnExactStoreNewSpec.pre6 enc Try.prog Try.f3 Rows.fnExactStoreNewRow.domain false) (Rows.fnExactStoreNewSpec.post enc Try.prog Try.f3 false true false false) := by
  refine returnsInHanded_of_change_sized (C := Try.checked) own started (by kernel_rfl) Try.func3
    (ChangeSpec.witness6 (enc := enc) (C := Try.checked) false ⟨#[], #[], []⟩ 8 (by kernel_rfl) (by kernel_rfl) (by kernel_rfl) (by kernel_rfl)) ?_
  intro W base args ds gs before hval0 hW hcnd hsz0 _
  have hval : ∀ (j : Nat) t v, Try.f3.params[j]? = some t → args[j]? = some v → Value.okWide Try.prog W .any base t v := hval0
  have hW' := hW
  obtain ⟨p, q, hA0, hV, rfl, hfz, hnd⟩ := hW
  have hA : DataW.TrodAll enc Try.prog W 0 (fun _ => true) true Try.f3.params.toList args.toList ds p := hA0
  rw [Try.params3] at hA hval
  obtain ⟨rfl, rfl, rfl⟩ := trodAll_none hA
  obtain ⟨rfl, rfl⟩ := trodVars_none hV
  obtain ⟨k, hp⟩ := Pure.FnExactStoreNew  
  clear hA0 hval0 hsz0
  refine (laws_FnExactStoreNew.calls k  true ⟨rfl⟩ W hp).mono fun e W' ⟨he, bel0⟩ => ?_
  have bel : Below W.heap.size W W' := bel0
  subst he
  exact ⟨_, rfl, _, _, _, [], _, [], hW', trodAll_mk1 (shut_bool Try.underlying4 _), trodAll_mk0, rfl, bel.frame _, fun h => by cases h⟩
theorem over : Rows.fnExactStoreNewRow.holds Try.pinned (OpenSpec.ofChange Rows.fnExactStoreNewSpec) :=
  OpenClaim.holds_of_wide 3 Try.f3 rfl rfl rfl rfl rfl rfl rfl ⟨rfl, rfl, rfl, rfl, rfl⟩ rfl rfl rfl rfl rfl (by kernel_rfl) Try.func3 (by kernel_rfl)
    (of_decide_eq_true (by kernel_rfl)) (by unfold Func.isWrapper; first | (rw [if_pos (by decide +kernel)]; kernel_rfl) | (rw [if_neg (by decide +kernel)]; exact ⟨rfl, rfl⟩))
    (fun os started H enc _ => lifted os started H enc)
theorem proved : Rows.FnExactStoreNewSaid := over
#print axioms proved
end Go.Proofs.Ytijbejiajaiciaa.fnExactStoreNew
namespace Go.Proofs.Ytijbejiajaiciaa
/-- The row, under a short name, for the claim. -/
theorem fnExactStoreNew_holds : Rows.FnExactStoreNewSaid := fnExactStoreNew.proved
end Go.Proofs.Ytijbejiajaiciaa
