/- FnExactPlaceOf: functions of the translation as Lean functions with what their calls come to, plain lemmas on them, and, at the end, the row. Parts of one proof, merged by a program of this session; each part's own sentence stands at its head. -/
import Derived.Test.YtdolplcbokioaaaWWords
import Derived.ChangeArms
import Derived.DataReads
import Derived.Test.YtdolplcbokioaaaRows
import Derived.WalkKit
import Derived.ProofKit
import Derived.OpenShut
import Derived.ShutString
import Derived.ChangeOld
import Derived.Below
import Derived.SizedLaws
import Derived.Test.YtdolplcbokioaaaMFnExactPlaceOfc
/- Functions of the translation as plain Lean functions, and for each that its call comes to just what its Lean function answers; its conditions stand in each theorem. Written by a program of this session. -/
namespace Go.Proofs.Ytdolplcbokioaaa.PB
open Go.RowKit Go.Proofs.YtdolplcbokioaaaW.PrintWords Go.Proofs.YtdolplcbokioaaaW.PrintLast Go.Proofs.YtdolplcbokioaaaW.PrintMore
attribute [local go_sem] max2_int min2_int max_two min_two max_three min_three max_four min_four   -- for this text's walks alone
set_option linter.unusedVariables false
set_option linter.unusedSimpArgs false

/-! ### laws_FnExactPlaceOf: function 12 -/
def laws_FnExactPlaceOf.j0 : Nat → Bool → List (S191) → List (S71) → Option (Bool)
  | 0, _, _, _ => none
  | k + 1, x43, x1543000, x1554000 => if x43 = true then (some false) else ((laws_toFlash.f k x1543000).bind fun t1557 => ((laws_eqFlash.f k x1554000 t1557).bind fun t1560 => (if t1560 = true then (some true) else (some false))))
def laws_FnExactPlaceOf.f (k : Nat) (l0_0 : List (S191)) : Option (Bool) := (laws_szFlash.f k l0_0 1048576).bind fun t1543 => (if t1543 < 0 then (some true) else ((laws_toFlash.f k l0_0).bind fun t1544 => ((spec_PlaceOf.f k t1544).bind fun bt1547 => ((laws_toFlash.f k l0_0).bind fun t1550 => ((impl_PlaceOf.f k t1550).bind fun bt1554 => (if bt1554.1 = bt1547.1 then (if bt1554.2.1 = bt1547.2.1 then (laws_FnExactPlaceOf.j0 k (bt1554.2.2 != bt1547.2.2) l0_0 t1550) else (laws_FnExactPlaceOf.j0 k true l0_0 t1550)) else (laws_FnExactPlaceOf.j0 k true l0_0 t1550)))))))
theorem laws_FnExactPlaceOf.mono_l : ∀ k, (∀ y0 y1 y2, LeO (laws_FnExactPlaceOf.j0 k y0 y1 y2) (laws_FnExactPlaceOf.j0 (k + 1) y0 y1 y2))
  | 0 => fun _ _ _ r h => by simp [laws_FnExactPlaceOf.j0] at h
  | k + 1 => by
    have ih0 := laws_FnExactPlaceOf.mono_l k
    · intro y0 y1 y2
      unfold laws_FnExactPlaceOf.j0
      repeat' first
      | (with_reducible exact ih0 _ _ _)
      | (with_reducible exact impl_PlaceOf.mono _ _)
      | (with_reducible exact laws_eqFlash.mono _ _ _)
      | (with_reducible exact laws_szFlash.mono _ _ _)
      | (with_reducible exact laws_toFlash.mono _ _)
      | (with_reducible exact spec_PlaceOf.mono _ _)
      | (with_reducible exact LeO.refl _)
      | (with_reducible exact LeO.none _)
      | (with_reducible refine LeO.ite ?_ ?_)
      | (with_reducible refine LeO.bind ?_ (fun _ => ?_))
      | exact ih0 _ _ _
      | exact impl_PlaceOf.mono _ _
      | exact laws_eqFlash.mono _ _ _
      | exact laws_szFlash.mono _ _ _
      | exact laws_toFlash.mono _ _
      | exact spec_PlaceOf.mono _ _
      | exact LeO.none _
      | refine LeO.ite ?_ ?_
      | refine LeO.bind ?_ (fun _ => ?_)
theorem laws_FnExactPlaceOf.mono : ∀ a0 k, LeO (laws_FnExactPlaceOf.f k a0) (laws_FnExactPlaceOf.f (k + 1) a0) := by
  intro a0 k
  have ih0 := laws_FnExactPlaceOf.mono_l k
  unfold laws_FnExactPlaceOf.f
  repeat' first
      | (with_reducible exact ih0 _ _ _)
      | (with_reducible exact impl_PlaceOf.mono _ _)
      | (with_reducible exact laws_eqFlash.mono _ _ _)
      | (with_reducible exact laws_szFlash.mono _ _ _)
      | (with_reducible exact laws_toFlash.mono _ _)
      | (with_reducible exact spec_PlaceOf.mono _ _)
      | (with_reducible exact LeO.refl _)
      | (with_reducible exact LeO.none _)
      | (with_reducible refine LeO.ite ?_ ?_)
      | (with_reducible refine LeO.bind ?_ (fun _ => ?_))
      | exact ih0 _ _ _
      | exact impl_PlaceOf.mono _ _
      | exact laws_eqFlash.mono _ _ _
      | exact laws_szFlash.mono _ _ _
      | exact laws_toFlash.mono _ _
      | exact spec_PlaceOf.mono _ _
      | exact LeO.none _
      | refine LeO.ite ?_ ?_
      | refine LeO.bind ?_ (fun _ => ?_)
set_option maxHeartbeats 8000000 in
set_option maxRecDepth 100000 in
theorem laws_FnExactPlaceOf.calls (k : Nat) (A0_0 : Option Addr) (c0_0 : Nat) (l0_0 : List (S191)) (r : Bool) (hT : Aside0 (r = true)) (w : World) (hr0_0 : Kd.C k191 w A0_0 l0_0.length l0_0) (hc0_0 : l0_0.length ≤ c0_0) (h : laws_FnExactPlaceOf.f k l0_0 = some r) :
    Calls Try.prog 12 #[.agg #[.slice A0_0 l0_0.length c0_0]] w fun e w' => e = .returned (.bool r) ∧ Below w.heap.size w w' := by
  have hu108 := Try.underlying108
  have hu63 := Try.underlying63
  have HR0_0 := Aside0.mk hr0_0
  have HC0_0 := Aside0.mk hc0_0
  clear hr0_0 hc0_0
  have HB := Aside0.mk (Below.refl w.heap.size w)
  have H : ((laws_szFlash.f k l0_0 1048576).bind fun t1543 => (if t1543 < 0 then (some true) else ((laws_toFlash.f k l0_0).bind fun t1544 => ((spec_PlaceOf.f k t1544).bind fun bt1547 => ((laws_toFlash.f k l0_0).bind fun t1550 => ((impl_PlaceOf.f k t1550).bind fun bt1554 => (if bt1554.1 = bt1547.1 then (if bt1554.2.1 = bt1547.2.1 then (laws_FnExactPlaceOf.j0 k (bt1554.2.2 != bt1547.2.2) l0_0 t1550) else (laws_FnExactPlaceOf.j0 k true l0_0 t1550)) else (laws_FnExactPlaceOf.j0 k true l0_0 t1550)))))))) = some r := h
  clear h
  replace H := Option.bind_eq_some_iff.mp H
  obtain ⟨t1543, A20, H⟩ := H
  replace H : (if t1543 < 0 then (some true) else ((laws_toFlash.f k l0_0).bind fun t1544 => ((spec_PlaceOf.f k t1544).bind fun bt1547 => ((laws_toFlash.f k l0_0).bind fun t1550 => ((impl_PlaceOf.f k t1550).bind fun bt1554 => (if bt1554.1 = bt1547.1 then (if bt1554.2.1 = bt1547.2.1 then (laws_FnExactPlaceOf.j0 k (bt1554.2.2 != bt1547.2.2) l0_0 t1550) else (laws_FnExactPlaceOf.j0 k true l0_0 t1550)) else (laws_FnExactPlaceOf.j0 k true l0_0 t1550))))))) = some r := H
  have A2 := Aside0.mk A20
  clear A20
  by_cases c3 : t1543 < 0
  · rw [if_pos c3] at H
    have c3b0 : decide (t1543 < 0) = true := decide_eq_true c3
    clear c3
    obtain rfl := Option.some.inj H
    go_enter Try.func12, Try.ntmps12
    go_wp2_with (first | ((with_reducible refine gate_dst (N := 1) rfl ?_); refine box_event ?hg (N := 1) ?hd (cs := #[.slice A0_0 l0_0.length c0_0]) (t := 108) ?hr ?_; (case hd => rfl); (case hg => rfl); (case hr => first | (go_simp; done) | (go_simp; rfl)); intro gb1542 hg w4 hbox hb; have n0_ := Aside0.mk (below_step (by repeat (first | (with_reducible first | exact HB.out | apply below_alloc | apply pw_below_drewN | apply below_drew1) | exact HB.out)) hb); have n1_ := Aside0.mk (hbox); have n2_ := Aside0.mk ((by rw [hg]; exact (below_size (by repeat (first | (with_reducible first | exact HB.out | apply below_alloc | apply pw_below_drewN | apply below_drew1) | exact HB.out))) : w.heap.size ≤ gb1542)); have n3_ := Aside0.mk ((by rw [hg]; exact (below_size (by repeat (first | (with_reducible first | exact HB.out | apply below_alloc | apply pw_below_drewN | apply below_drew1) | exact HB.out))) : w.heap.size ≤ gb1542)); clear HB; have HB := n0_; have BK1542 := n1_; have GW1542 := n2_; have GE1542 := n3_; clear n0_ n1_ n2_ n3_; clear hb hbox hg; have hcz5_0 : w4.cell? ⟨gb1542, 0, none⟩ = some (.slice A0_0 l0_0.length c0_0) := (blk_cell BK1542.out 0).trans rfl; have hfz5_0 := blk_frozen BK1542.out 0) | ((with_reducible refine gate_callee (f := 68) rfl ?_); refine goesL_ (some 13) rfl rfl Try.func68 (by kernel_rfl) rfl #[.agg #[.slice A0_0 l0_0.length c0_0], .int .i64 1048576] rfl (by (try simp only [List.map_toArray, List.map_cons, List.map_nil]); first | done | rfl | (simp only [List.length_drop, List.length_take]; rfl)) ?_; (with_reducible refine (laws_szFlash.calls k _ _ l0_0 1048576 t1543 _ ?side1 ?side2 A2.out).mono ?_); (case side1 => repeat (first | exact (Kd.C_below HR0_0.out HB.out) | (with_reducible refine Kd.C_alloc ?_ _) | (with_reducible refine Kd.C_drewN ?_ _) | (with_reducible refine Kd.C_drew ?_))); (case side2 => exact HC0_0.out); rintro e w6 ⟨rfl, hb⟩; refine ⟨_, rfl, ?_⟩; have n0_ := Aside0.mk (blk_below (g := gb1542) (o := .cells #[.slice A0_0 l0_0.length c0_0] 108 (0, 0)) (by (with_reducible repeat (first | refine blk_drewN ?_ _ | refine blk_drew ?_ | refine blk_alloc ?_ _)); exact BK1542.out) hb); have n1_ := Aside0.mk (below_step (by repeat (first | (with_reducible first | exact HB.out | apply below_alloc | apply pw_below_drewN | apply below_drew1 | refine below_set ?_ GE1542.out) | exact HB.out)) hb); clear BK1542; clear HB; have BK1542 := n0_; have HB := n1_; clear n0_ n1_; (try clear hb); (try clear hb2); (try clear hk); (try clear hi)))
    go_ret
    exact ⟨by first | rfl | (simp [errW_none, errW_some] <;> rfl) | (simp [*, errW_none, errW_some] <;> rfl), by repeat (first | (with_reducible first | exact HB.out | apply below_alloc | apply pw_below_drewN | apply below_drew1 | refine below_set ?_ GE1542.out) | exact HB.out)⟩
  · rw [if_neg c3] at H
    have c3b0 : decide (t1543 < 0) = false := decide_eq_false c3
    clear c3
    replace H := Option.bind_eq_some_iff.mp H
    obtain ⟨t1544, A70, H⟩ := H
    replace H : ((spec_PlaceOf.f k t1544).bind fun bt1547 => ((laws_toFlash.f k l0_0).bind fun t1550 => ((impl_PlaceOf.f k t1550).bind fun bt1554 => (if bt1554.1 = bt1547.1 then (if bt1554.2.1 = bt1547.2.1 then (laws_FnExactPlaceOf.j0 k (bt1554.2.2 != bt1547.2.2) l0_0 t1550) else (laws_FnExactPlaceOf.j0 k true l0_0 t1550)) else (laws_FnExactPlaceOf.j0 k true l0_0 t1550))))) = some r := H
    have A7 := Aside0.mk A70
    clear A70
    replace H := Option.bind_eq_some_iff.mp H
    obtain ⟨⟨t1547, t1548, t1549⟩, A80, H⟩ := H
    replace H : ((laws_toFlash.f k l0_0).bind fun t1550 => ((impl_PlaceOf.f k t1550).bind fun bt1554 => (if bt1554.1 = t1547 then (if bt1554.2.1 = t1548 then (laws_FnExactPlaceOf.j0 k (bt1554.2.2 != t1549) l0_0 t1550) else (laws_FnExactPlaceOf.j0 k true l0_0 t1550)) else (laws_FnExactPlaceOf.j0 k true l0_0 t1550)))) = some r := H
    have A8 := Aside0.mk A80
    clear A80
    replace H := Option.bind_eq_some_iff.mp H
    obtain ⟨t1550, A90, H⟩ := H
    replace H : ((impl_PlaceOf.f k t1550).bind fun bt1554 => (if bt1554.1 = t1547 then (if bt1554.2.1 = t1548 then (laws_FnExactPlaceOf.j0 k (bt1554.2.2 != t1549) l0_0 t1550) else (laws_FnExactPlaceOf.j0 k true l0_0 t1550)) else (laws_FnExactPlaceOf.j0 k true l0_0 t1550))) = some r := H
    have A9 := Aside0.mk A90
    clear A90
    replace H := Option.bind_eq_some_iff.mp H
    obtain ⟨⟨t1554, t1555, t1556⟩, A100, H⟩ := H
    replace H : (if t1554 = t1547 then (if t1555 = t1548 then (laws_FnExactPlaceOf.j0 k (t1556 != t1549) l0_0 t1550) else (laws_FnExactPlaceOf.j0 k true l0_0 t1550)) else (laws_FnExactPlaceOf.j0 k true l0_0 t1550)) = some r := H
    have A10 := Aside0.mk A100
    clear A100
    have HC11 := Aside0.mk H
    clear H
    go_enter Try.func12, Try.ntmps12
    go_upto_region 8 with (first | ((with_reducible refine gate_dst (N := 1) rfl ?_); refine box_event ?hg (N := 1) ?hd (cs := #[.slice A0_0 l0_0.length c0_0]) (t := 108) ?hr ?_; (case hd => rfl); (case hg => rfl); (case hr => first | (go_simp; done) | (go_simp; rfl)); intro gb1542 hg w12 hbox hb; have n0_ := Aside0.mk (below_step (by repeat (first | (with_reducible first | exact HB.out | apply below_alloc | apply pw_below_drewN | apply below_drew1) | exact HB.out)) hb); have n1_ := Aside0.mk (hbox); have n2_ := Aside0.mk ((by rw [hg]; exact (below_size (by repeat (first | (with_reducible first | exact HB.out | apply below_alloc | apply pw_below_drewN | apply below_drew1) | exact HB.out))) : w.heap.size ≤ gb1542)); have n3_ := Aside0.mk ((by rw [hg]; exact (below_size (by repeat (first | (with_reducible first | exact HB.out | apply below_alloc | apply pw_below_drewN | apply below_drew1) | exact HB.out))) : w.heap.size ≤ gb1542)); clear HB; have HB := n0_; have BK1542 := n1_; have GW1542 := n2_; have GE1542 := n3_; clear n0_ n1_ n2_ n3_; clear hb hbox hg; have hcz13_0 : w12.cell? ⟨gb1542, 0, none⟩ = some (.slice A0_0 l0_0.length c0_0) := (blk_cell BK1542.out 0).trans rfl; have hfz13_0 := blk_frozen BK1542.out 0) | ((with_reducible refine gate_callee (f := 68) rfl ?_); refine goesL_ (some 13) rfl rfl Try.func68 (by kernel_rfl) rfl #[.agg #[.slice A0_0 l0_0.length c0_0], .int .i64 1048576] rfl (by (try simp only [List.map_toArray, List.map_cons, List.map_nil]); first | done | rfl | (simp only [List.length_drop, List.length_take]; rfl)) ?_; (with_reducible refine (laws_szFlash.calls k _ _ l0_0 1048576 t1543 _ ?side1 ?side2 A2.out).mono ?_); (case side1 => repeat (first | exact (Kd.C_below HR0_0.out HB.out) | (with_reducible refine Kd.C_alloc ?_ _) | (with_reducible refine Kd.C_drewN ?_ _) | (with_reducible refine Kd.C_drew ?_))); (case side2 => exact HC0_0.out); rintro e w14 ⟨rfl, hb⟩; refine ⟨_, rfl, ?_⟩; have n0_ := Aside0.mk (blk_below (g := gb1542) (o := .cells #[.slice A0_0 l0_0.length c0_0] 108 (0, 0)) (by (with_reducible repeat (first | refine blk_drewN ?_ _ | refine blk_drew ?_ | refine blk_alloc ?_ _)); exact BK1542.out) hb); have n1_ := Aside0.mk (below_step (by repeat (first | (with_reducible first | exact HB.out | apply below_alloc | apply pw_below_drewN | apply below_drew1 | refine below_set ?_ GE1542.out) | exact HB.out)) hb); clear BK1542; clear HB; have BK1542 := n0_; have HB := n1_; clear n0_ n1_; (try clear hb); (try clear hb2); (try clear hk); (try clear hi); have hcz15_0 : w14.cell? ⟨gb1542, 0, none⟩ = some (.slice A0_0 l0_0.length c0_0) := (blk_cell BK1542.out 0).trans rfl; have hfz15_0 := blk_frozen BK1542.out 0) | ((with_reducible refine gate_callee (f := 70) rfl ?_); refine goesL_ (some 18) rfl rfl Try.func70 (by kernel_rfl) rfl #[.agg #[.slice A0_0 l0_0.length c0_0]] rfl (by (try simp only [List.map_toArray, List.map_cons, List.map_nil]); first | done | rfl | (simp only [List.length_drop, List.length_take]; rfl)) ?_; (with_reducible refine (laws_toFlash.calls k _ _ l0_0 t1544 _ ?side1 ?side2 A7.out).mono ?_); (case side1 => repeat (first | exact (Kd.C_below HR0_0.out HB.out) | (with_reducible refine Kd.C_alloc ?_ _) | (with_reducible refine Kd.C_drewN ?_ _) | (with_reducible refine Kd.C_drew ?_))); (case side2 => exact HC0_0.out); rintro e w16 ⟨v1545, rfl, ho0, hb⟩; refine ⟨_, rfl, ?_⟩; have n0_ := Aside0.mk (Kd.S_lower ho0 (below_size (by repeat (first | (with_reducible first | exact HB.out | apply below_alloc | apply pw_below_drewN | apply below_drew1 | refine below_set ?_ GE1542.out) | exact HB.out)))); have n1_ := Aside0.mk (blk_below (g := gb1542) (o := .cells #[.slice A0_0 l0_0.length c0_0] 108 (0, 0)) (by (with_reducible repeat (first | refine blk_drewN ?_ _ | refine blk_drew ?_ | refine blk_alloc ?_ _)); exact BK1542.out) hb); have n2_ := Aside0.mk (below_step (by repeat (first | (with_reducible first | exact HB.out | apply below_alloc | apply pw_below_drewN | apply below_drew1 | refine below_set ?_ GE1542.out) | exact HB.out)) hb); clear BK1542; clear HB; have HO1546 := n0_; have BK1542 := n1_; have HB := n2_; clear n0_ n1_ n2_; (try clear hb); (try clear hb2); (try clear hk); (try clear hi); (try clear ho0); obtain ⟨Ao17, co17, eo17⟩ := Kd.S_slice HO1546.out; subst eo17) | ((with_reducible refine gate_callee (f := 69) rfl ?_); refine goesL_ (some 19) rfl rfl Try.func69 (by kernel_rfl) rfl #[.agg #[.slice Ao17 t1544.length co17]] rfl (by (try simp only [List.map_toArray, List.map_cons, List.map_nil]); first | done | rfl | (simp only [List.length_drop, List.length_take]; rfl)) ?_; (with_reducible refine (spec_PlaceOf.calls k _ _ t1544 t1547 t1548 t1549 _ ?side1 ?side2 A8.out).mono ?_); (case side1 => repeat (first | exact (Kd.S_reads' HO1546.out).2.2 | (with_reducible refine Kd.C_alloc ?_ _) | (with_reducible refine Kd.C_drewN ?_ _) | (with_reducible refine Kd.C_drew ?_))); (case side2 => exact (Kd.S_reads' HO1546.out).2.1); rintro e w18 ⟨rfl, hb⟩; refine ⟨_, rfl, ?_⟩; have n0_ := Aside0.mk (Kd.S_below (by (with_reducible repeat (first | apply Kd.S_alloc | apply Kd.S_drewN | apply Kd.S_drew)); exact HO1546.out) hb); have n1_ := Aside0.mk (blk_below (g := gb1542) (o := .cells #[.slice A0_0 l0_0.length c0_0] 108 (0, 0)) (by (with_reducible repeat (first | refine blk_drewN ?_ _ | refine blk_drew ?_ | refine blk_alloc ?_ _)); exact BK1542.out) hb); have n2_ := Aside0.mk (below_step (by repeat (first | (with_reducible first | exact HB.out | apply below_alloc | apply pw_below_drewN | apply below_drew1 | refine below_set ?_ GE1542.out) | exact HB.out)) hb); clear HO1546; clear BK1542; clear HB; have HO1546 := n0_; have BK1542 := n1_; have HB := n2_; clear n0_ n1_ n2_; (try clear hb); (try clear hb2); (try clear hk); (try clear hi); have hcz19_0 : w18.cell? ⟨gb1542, 0, none⟩ = some (.slice A0_0 l0_0.length c0_0) := (blk_cell BK1542.out 0).trans rfl; have hfz19_0 := blk_frozen BK1542.out 0) | ((with_reducible refine gate_callee (f := 70) rfl ?_); refine goesL_ (some 24) rfl rfl Try.func70 (by kernel_rfl) rfl #[.agg #[.slice A0_0 l0_0.length c0_0]] rfl (by (try simp only [List.map_toArray, List.map_cons, List.map_nil]); first | done | rfl | (simp only [List.length_drop, List.length_take]; rfl)) ?_; (with_reducible refine (laws_toFlash.calls k _ _ l0_0 t1550 _ ?side1 ?side2 A9.out).mono ?_); (case side1 => repeat (first | exact (Kd.C_below HR0_0.out HB.out) | (with_reducible refine Kd.C_alloc ?_ _) | (with_reducible refine Kd.C_drewN ?_ _) | (with_reducible refine Kd.C_drew ?_))); (case side2 => exact HC0_0.out); rintro e w20 ⟨v1551, rfl, ho0, hb⟩; refine ⟨_, rfl, ?_⟩; have n0_ := Aside0.mk (Kd.S_elder' (by (with_reducible repeat (first | apply Kd.S_alloc | apply Kd.S_drewN | apply Kd.S_drew)); exact HO1546.out) (Kd.S_base ho0) hb); have n1_ := Aside0.mk (Kd.S_lower (Kd.S_new' ho0 (Kd.S_lt (by (with_reducible repeat (first | apply Kd.S_alloc | apply Kd.S_drewN | apply Kd.S_drew)); exact HO1546.out))) (below_size (by repeat (first | (with_reducible first | exact HB.out | apply below_alloc | apply pw_below_drewN | apply below_drew1 | refine below_set ?_ GE1542.out) | exact HB.out)))); have n2_ := Aside0.mk (blk_below (g := gb1542) (o := .cells #[.slice A0_0 l0_0.length c0_0] 108 (0, 0)) (by (with_reducible repeat (first | refine blk_drewN ?_ _ | refine blk_drew ?_ | refine blk_alloc ?_ _)); exact BK1542.out) hb); have n3_ := Aside0.mk (below_step (by repeat (first | (with_reducible first | exact HB.out | apply below_alloc | apply pw_below_drewN | apply below_drew1 | refine below_set ?_ GE1542.out) | exact HB.out)) hb); clear HO1546; clear BK1542; clear HB; have HO1546 := n0_; have HO1552 := n1_; have BK1542 := n2_; have HB := n3_; clear n0_ n1_ n2_ n3_; (try clear hb); (try clear hb2); (try clear hk); (try clear hi); (try clear ho0)) | ((with_reducible refine gate_dst (N := 7) rfl ?_); refine box_event ?hg (N := 7) ?hd (cs := #[.slice none 0 0]) (t := 63) ?hr ?_; (case hd => rfl); (case hg => rfl); (case hr => first | (go_simp; done) | (go_simp; rfl)); intro gb1553 hg w21 hbox hb; have n0_ := Aside0.mk (Kd.S_below (by (with_reducible repeat (first | apply Kd.S_alloc | apply Kd.S_drewN | apply Kd.S_drew)); exact HO1546.out) hb); have n1_ := Aside0.mk (Kd.S_below (by (with_reducible repeat (first | apply Kd.S_alloc | apply Kd.S_drewN | apply Kd.S_drew)); exact HO1552.out) hb); have n2_ := Aside0.mk (blk_below (g := gb1542) (o := .cells #[.slice A0_0 l0_0.length c0_0] 108 (0, 0)) (by (with_reducible repeat (first | refine blk_drewN ?_ _ | refine blk_drew ?_ | refine blk_alloc ?_ _)); exact BK1542.out) hb); have n3_ := Aside0.mk (below_step (by repeat (first | (with_reducible first | exact HB.out | apply below_alloc | apply pw_below_drewN | apply below_drew1 | refine below_set ?_ GE1542.out) | exact HB.out)) hb); have n4_ := Aside0.mk (hbox); have n5_ := Aside0.mk ((by rw [hg]; exact (below_size (by repeat (first | (with_reducible first | exact HB.out | apply below_alloc | apply pw_below_drewN | apply below_drew1 | refine below_set ?_ GE1542.out) | exact HB.out))) : w.heap.size ≤ gb1553)); have n6_ := Aside0.mk ((by rw [hg]; exact (below_size (by repeat (first | (with_reducible first | exact HB.out | apply below_alloc | apply pw_below_drewN | apply below_drew1 | refine below_set ?_ GE1542.out) | exact HB.out))) : w.heap.size ≤ gb1553)); have n7_ := Aside0.mk ((by rw [hg]; exact Nat.ne_of_lt (blk_lt (g := gb1542) (o := .cells #[.slice A0_0 l0_0.length c0_0] 108 (0, 0)) (by (with_reducible repeat (first | refine blk_drewN ?_ _ | refine blk_drew ?_ | refine blk_alloc ?_ _)); exact BK1542.out)) : gb1542 ≠ gb1553)); have n8_ := Aside0.mk ((by rw [hg]; exact Nat.ne_of_gt (blk_lt (g := gb1542) (o := .cells #[.slice A0_0 l0_0.length c0_0] 108 (0, 0)) (by (with_reducible repeat (first | refine blk_drewN ?_ _ | refine blk_drew ?_ | refine blk_alloc ?_ _)); exact BK1542.out)) : gb1553 ≠ gb1542)); clear HO1546; clear HO1552; clear BK1542; clear HB; have HO1546 := n0_; have HO1552 := n1_; have BK1542 := n2_; have HB := n3_; have BK1553 := n4_; have GW1553 := n5_; have GE1553 := n6_; have NB1542_1553 := n7_; have NB1553_1542 := n8_; clear n0_ n1_ n2_ n3_ n4_ n5_ n6_ n7_ n8_; clear hb hbox hg; obtain ⟨Ao22, co22, eo22⟩ := Kd.S_slice HO1552.out; subst eo22; have hnb23 := NB1553_1542.out; have hnc23 := NB1542_1553.out; have hcz24_0 : w21.cell? ⟨gb1553, 0, none⟩ = some (.slice none 0 0) := (blk_cell BK1553.out 0).trans rfl; have hfz24_0 := blk_frozen BK1553.out 0) | ((with_reducible refine gate_callee (f := 37) rfl ?_); refine goesL_ (some 27) rfl rfl Try.func37 (by kernel_rfl) rfl #[.agg #[.slice Ao22 t1550.length co22]] rfl (by (try simp only [List.map_toArray, List.map_cons, List.map_nil]); first | done | rfl | (simp only [List.length_drop, List.length_take]; rfl)) ?_; (with_reducible refine (impl_PlaceOf.calls k _ _ t1550 t1554 t1555 t1556 _ ?side1 ?side2 A10.out).mono ?_); (case side1 => refine (Kd.S_reads' (e := 71) (base := w.heap.size) (ok := fun k_ => (True ∧ some k_ ≠ (.slice Ao17 t1544.length co17 : Value).ownBlock)) (n := t1550.length) (c := co22) ?_).2.2; exact (by (with_reducible repeat (first | apply Kd.S_alloc | apply Kd.S_drewN | apply Kd.S_drew)); exact (Kd.S_mono (Kd.S_far (p := ⟨gb1553, 0, none⟩) (Kd.S_types HO1552.out BK1553.out (by decide)) (fun _ hk => hk.2) (.slice Ao22 t1550.length co22)) (fun _ h_ => h_.1)))); (case side2 => exact (Kd.S_reads' HO1552.out).2.1); rintro e w25 ⟨rfl, hb⟩; refine ⟨_, rfl, ?_⟩; have n0_ := Aside0.mk (Kd.S_below (by (with_reducible repeat (first | apply Kd.S_alloc | apply Kd.S_drewN | apply Kd.S_drew)); exact (Kd.S_mono (Kd.S_far (p := ⟨gb1553, 0, none⟩) (Kd.S_types HO1546.out BK1553.out (by decide)) (fun _ hk => hk.2) (.slice Ao22 t1550.length co22)) (fun _ h_ => h_.1))) hb); have n1_ := Aside0.mk (Kd.S_below (by (with_reducible repeat (first | apply Kd.S_alloc | apply Kd.S_drewN | apply Kd.S_drew)); exact (Kd.S_mono (Kd.S_far (p := ⟨gb1553, 0, none⟩) (Kd.S_types HO1552.out BK1553.out (by decide)) (fun _ hk => hk.2) (.slice Ao22 t1550.length co22)) (fun _ h_ => h_.1))) hb); have n2_ := Aside0.mk (blk_below (g := gb1542) (o := .cells #[.slice A0_0 l0_0.length c0_0] 108 (0, 0)) (by (with_reducible repeat (first | refine blk_drewN ?_ _ | refine blk_drew ?_ | refine blk_alloc ?_ _)); refine blk_far ?_ NB1542_1553.out _; (with_reducible repeat (first | refine blk_drewN ?_ _ | refine blk_drew ?_ | refine blk_alloc ?_ _)); exact BK1542.out) hb); have n3_ := Aside0.mk (blk_below (g := gb1553) (o := .cells #[.slice Ao22 t1550.length co22] 63 (0, 0)) (by (with_reducible repeat (first | refine blk_drewN ?_ _ | refine blk_drew ?_ | refine blk_alloc ?_ _)); refine blk_put (cs := #[.slice none 0 0]) ?_ 0 _ rfl; (with_reducible repeat (first | refine blk_drewN ?_ _ | refine blk_drew ?_ | refine blk_alloc ?_ _)); exact BK1553.out) hb); have n4_ := Aside0.mk (below_step (by repeat (first | (with_reducible first | exact HB.out | apply below_alloc | apply pw_below_drewN | apply below_drew1 | refine below_set ?_ GE1542.out | refine below_set ?_ GE1553.out) | exact HB.out)) hb); clear HO1546; clear HO1552; clear BK1542; clear BK1553; clear HB; have HO1546 := n0_; have HO1552 := n1_; have BK1542 := n2_; have BK1553 := n3_; have HB := n4_; clear n0_ n1_ n2_ n3_ n4_; (try clear hb); (try clear hb2); (try clear hk); (try clear hi)))
    (try simp only [Act.put, List.setIfInBounds_toArray, List.set_cons_zero, List.set_cons_succ])
    go_cut [43] (fun v43 wc => ∃ (kq : Nat) (x43_10 : Bool), v43 = .bool x43_10 ∧ Aside0 (laws_FnExactPlaceOf.j0 kq x43_10 l0_0 t1550 = some r) ∧ Aside0 (kq ≤ k) ∧ Aside0 (Kd.S k71 71 wc w.heap.size (fun _ => True) (.slice Ao22 t1550.length co22) t1550) ∧ Aside0 (wc.heap[gb1542]? = some (.cells #[(.slice A0_0 l0_0.length c0_0)] 108 (0, 0))) ∧ Aside0 (wc.heap[gb1553]? = some (.cells #[(.slice Ao22 t1550.length co22)] 63 (0, 0))) ∧ Aside0 (Below w.heap.size w wc))
    case first =>
      have H := HC11.out
      clear HC11
      by_cases c26 : t1554 = t1547
      · rw [if_pos c26] at H
        have c26b0 : (t1554 == t1547) = true := beq_iff_eq.mpr c26
        have c26b1 : (t1554 != t1547) = false := bne_eq_false_iff_eq.mpr c26
        clear c26
        (first | rw [c26b0] | (simp only [i64_w, i32_w]; rw [c26b0]) | skip)
        by_cases c27 : t1555 = t1548
        · rw [if_pos c27] at H
          have c27b0 : (t1555 == t1548) = true := beq_iff_eq.mpr c27
          have c27b1 : (t1555 != t1548) = false := bne_eq_false_iff_eq.mpr c27
          clear c27
          have H' := Aside0.mk H
          clear H
          go_wp2
          go_meet
          case rel => exact ⟨_, ((t1556 != t1549)), (by first | rfl | (simp; done) | (simp [*]; done)), H', ⟨by first | omega | exact Nat.le_refl _⟩, ⟨by (with_reducible repeat (first | apply Kd.S_alloc | apply Kd.S_drewN | apply Kd.S_drew)); exact Kd.S_mono HO1552.out (fun _ hk => trivial)⟩, ⟨by (with_reducible repeat (first | refine blk_drewN ?_ _ | refine blk_drew ?_ | refine blk_alloc ?_ _)); exact BK1542.out⟩, ⟨by (with_reducible repeat (first | refine blk_drewN ?_ _ | refine blk_drew ?_ | refine blk_alloc ?_ _)); exact BK1553.out⟩, ⟨by repeat (first | (with_reducible first | exact HB.out | apply below_alloc | apply pw_below_drewN | apply below_drew1 | refine below_set ?_ GE1542.out | refine below_set ?_ GE1553.out) | exact HB.out)⟩⟩
        · rw [if_neg c27] at H
          have c27b0 : (t1555 == t1548) = false := beq_eq_false_iff_ne.mpr c27
          have c27b1 : (t1555 != t1548) = true := bne_iff_ne.mpr c27
          have H' := Aside0.mk H
          clear H
          go_wp2
          go_meet
          case rel => exact ⟨_, (true), (by first | rfl | (simp; done) | (simp [*]; done)), H', ⟨by first | omega | exact Nat.le_refl _⟩, ⟨by (with_reducible repeat (first | apply Kd.S_alloc | apply Kd.S_drewN | apply Kd.S_drew)); exact Kd.S_mono HO1552.out (fun _ hk => trivial)⟩, ⟨by (with_reducible repeat (first | refine blk_drewN ?_ _ | refine blk_drew ?_ | refine blk_alloc ?_ _)); exact BK1542.out⟩, ⟨by (with_reducible repeat (first | refine blk_drewN ?_ _ | refine blk_drew ?_ | refine blk_alloc ?_ _)); exact BK1553.out⟩, ⟨by repeat (first | (with_reducible first | exact HB.out | apply below_alloc | apply pw_below_drewN | apply below_drew1 | refine below_set ?_ GE1542.out | refine below_set ?_ GE1553.out) | exact HB.out)⟩⟩
      · rw [if_neg c26] at H
        have c26b0 : (t1554 == t1547) = false := beq_eq_false_iff_ne.mpr c26
        have c26b1 : (t1554 != t1547) = true := bne_iff_ne.mpr c26
        (first | rw [c26b0] | (simp only [i64_w, i32_w]; rw [c26b0]) | skip)
        have H' := Aside0.mk H
        clear H
        go_wp2
        go_meet
        case rel => exact ⟨_, (true), (by first | rfl | (simp; done) | (simp [*]; done)), H', ⟨by first | omega | exact Nat.le_refl _⟩, ⟨by (with_reducible repeat (first | apply Kd.S_alloc | apply Kd.S_drewN | apply Kd.S_drew)); exact Kd.S_mono HO1552.out (fun _ hk => trivial)⟩, ⟨by (with_reducible repeat (first | refine blk_drewN ?_ _ | refine blk_drew ?_ | refine blk_alloc ?_ _)); exact BK1542.out⟩, ⟨by (with_reducible repeat (first | refine blk_drewN ?_ _ | refine blk_drew ?_ | refine blk_alloc ?_ _)); exact BK1553.out⟩, ⟨by repeat (first | (with_reducible first | exact HB.out | apply below_alloc | apply pw_below_drewN | apply below_drew1 | refine below_set ?_ GE1542.out | refine below_set ?_ GE1553.out) | exact HB.out)⟩⟩
    case rest =>
      clear HC11
      try clear c1
      try clear c2
      try clear p2
      try clear c3
      try clear c3b0
      try clear c6
      try clear c7
      try clear c12
      try clear c23
      try clear c26
      try clear c26b0
      try clear c26b1
      try clear c27
      try clear c27b0
      try clear c27b1
      try clear hcz13_0
      try clear hcz15_0
      try clear hcz19_0
      try clear hcz24_0
      try clear hcz5_0
      try clear hfz13_0
      try clear hfz15_0
      try clear hfz19_0
      try clear hfz24_0
      try clear hfz5_0
      obtain ⟨kq, x43_10, rfl, HA, HJ10, HO_1554000, BK1542, BK1553, HB⟩ := hcut
      cases kq with
      | zero => exact absurd HA.out (by simp [laws_FnExactPlaceOf.j0])
      | succ kj10 =>
        have H := HA.out
        clear HA
        simp only [laws_FnExactPlaceOf.j0] at H
        by_cases c28 : x43_10 = true
        · subst c28
          have H1 : (some false) = some r := by rw [if_pos rfl] at H; exact H
          clear H
          have H := H1
          clear H1
          exact absurd ((Option.some.inj H).trans hT.out) (by decide)
        · replace c28 := Bool.eq_false_iff.mpr c28
          subst c28
          have H1 : ((laws_toFlash.f kj10 l0_0).bind fun t1557 => ((laws_eqFlash.f kj10 t1550 t1557).bind fun t1560 => (if t1560 = true then (some true) else (some false)))) = some r := by rw [if_neg (show ¬ (false = true) by decide)] at H; exact H
          clear H
          have H := H1
          clear H1
          replace H := Option.bind_eq_some_iff.mp H
          obtain ⟨t1557, A290, H⟩ := H
          replace H : ((laws_eqFlash.f kj10 t1550 t1557).bind fun t1560 => (if t1560 = true then (some true) else (some false))) = some r := H
          have A29 := Aside0.mk A290
          clear A290
          replace H := Option.bind_eq_some_iff.mp H
          obtain ⟨t1560, A300, H⟩ := H
          replace H : (if t1560 = true then (some true) else (some false)) = some r := H
          have A30 := Aside0.mk A300
          clear A300
          by_cases c31 : t1560 = true
          · subst c31
            have H1 : (some true) = some r := by rw [if_pos rfl] at H; exact H
            clear H
            have H := H1
            clear H1
            obtain rfl := Option.some.inj H
            try go_wp2
            have n0_ := Aside0.mk (Kd.S_drew HO_1554000.out)
            have n1_ := Aside0.mk (blk_drew BK1542.out)
            have n2_ := Aside0.mk (blk_drew BK1553.out)
            have n3_ := Aside0.mk (below_drew1 HB.out)
            clear HO_1554000
            clear BK1542
            clear BK1553
            clear HB
            have HO_1554000 := n0_
            have BK1542 := n1_
            have BK1553 := n2_
            have HB := n3_
            clear n0_ n1_ n2_ n3_
            refine start_ (n := 5) (S := fun w' => w'.cell? ⟨gb1553, 0, none⟩ = some (.slice Ao22 t1550.length co22) ∧ w'.cell? ⟨gb1542, 0, none⟩ = some (.slice A0_0 l0_0.length c0_0)) (ds := []) #[false, false, false, false, false] (by kernel_rfl) rfl rfl ⟨(blk_cell BK1553.out 0).trans rfl, (blk_cell BK1542.out 0).trans rfl⟩ (fun hHeld => ?_)
            generalize wc.drew = w32 at HO_1554000 BK1542 BK1553 HB hHeld ⊢
            refine take_ (i := 0) (N := some 44) (v := ?_) (a' := ?_) #[true, false, false, false, false] rfl rfl (by kernel_rfl) (fun _ _ _ h => h) (Or.inl ⟨by rfl, ?_⟩) hHeld ?_ ?_
            rotate_left
            · rintro w' ⟨s0, s1⟩
              go_simp
              with_reducible rfl
            rotate_left
            · simp only [Act.put, List.setIfInBounds_toArray, List.set_cons_zero, List.set_cons_succ, i64_w, i32_w]
              rfl
            refine take_ (i := 1) (N := some 45) (v := ?_) (a' := ?_) #[true, true, false, false, false] rfl rfl (by kernel_rfl) (fun _ _ _ h => h) (Or.inl ⟨by rfl, ?_⟩) hHeld ?_ ?_
            rotate_left
            · rintro w' ⟨s0, s1⟩
              go_simp
              with_reducible rfl
            rotate_left
            · simp only [Act.put, List.setIfInBounds_toArray, List.set_cons_zero, List.set_cons_succ, i64_w, i32_w]
              rfl
            refine one_ (i := 2) (N := some 46) #[true, true, true, false, false] rfl rfl (by kernel_rfl) (by decide) (fun K hK => ?_)
            refine goes_ Try.func70 (by kernel_rfl) rfl #[.agg #[.slice A0_0 l0_0.length c0_0]] (by rfl) rfl rfl (by (try simp only [List.map_toArray, List.map_cons, List.map_nil]); first | done | rfl | (simp only [List.length_drop, List.length_take]; rfl)) ?_
            with_reducible refine (laws_toFlash.calls kj10 _ _ l0_0 t1557 _ ?side1 ?side2 A29.out).mono ?_
            (case side1 => repeat (first | exact (Kd.C_below HR0_0.out HB.out) | (with_reducible refine Kd.C_alloc ?_ _) | (with_reducible refine Kd.C_drewN ?_ _) | (with_reducible refine Kd.C_drew ?_)))
            (case side2 => exact HC0_0.out)
            rintro e w33 ⟨v1558, rfl, ho0, hb⟩
            refine ⟨_, rfl, ?_⟩
            have n0_ := Aside0.mk (Kd.S_elder' (by (with_reducible repeat (first | apply Kd.S_alloc | apply Kd.S_drewN | apply Kd.S_drew)); exact HO_1554000.out) (Kd.S_base ho0) hb)
            have n1_ := Aside0.mk (Kd.S_lower (Kd.S_new' ho0 (Kd.S_lt (by (with_reducible repeat (first | apply Kd.S_alloc | apply Kd.S_drewN | apply Kd.S_drew)); exact HO_1554000.out))) (below_size (by repeat (first | (with_reducible first | exact HB.out | apply below_alloc | apply pw_below_drewN | apply below_drew1 | refine below_set ?_ GE1542.out | refine below_set ?_ GE1553.out) | exact HB.out))))
            have n2_ := Aside0.mk (blk_below (g := gb1542) (o := .cells #[.slice A0_0 l0_0.length c0_0] 108 (0, 0)) (by (with_reducible repeat (first | refine blk_drewN ?_ _ | refine blk_drew ?_ | refine blk_alloc ?_ _)); exact BK1542.out) hb)
            have n3_ := Aside0.mk (blk_below (g := gb1553) (o := .cells #[.slice Ao22 t1550.length co22] 63 (0, 0)) (by (with_reducible repeat (first | refine blk_drewN ?_ _ | refine blk_drew ?_ | refine blk_alloc ?_ _)); exact BK1553.out) hb)
            have n4_ := Aside0.mk (below_step (by repeat (first | (with_reducible first | exact HB.out | apply below_alloc | apply pw_below_drewN | apply below_drew1 | refine below_set ?_ GE1542.out | refine below_set ?_ GE1553.out) | exact HB.out)) hb)
            clear HO_1554000
            clear BK1542
            clear BK1553
            clear HB
            have HO_1554000 := n0_
            have HO1559 := n1_
            have BK1542 := n2_
            have BK1553 := n3_
            have HB := n4_
            clear n0_ n1_ n2_ n3_ n4_
            (try clear hb)
            (try clear hb2)
            (try clear hk)
            (try clear hi)
            (try clear ho0)
            obtain ⟨Ao34, co34, eo34⟩ := Kd.S_slice HO1559.out
            (first | subst eo34 | (injection eo34 with f1_ f2_ f3_; have f4_ := f1_.symm; have f5_ := f3_.symm; clear f1_ f2_ f3_; subst f4_; subst f5_))
            refine hK.out _ _ ⟨(blk_cell BK1553.out 0).trans rfl, (blk_cell BK1542.out 0).trans rfl⟩ (fun hHeld => ?_)
            clear hK K
            refine norm_ (a' := ?_) ?_ ?_
            rotate_left
            · show Act.put _ (some 46) _ = _
              simp only [Act.put, List.setIfInBounds_toArray, List.set_cons_zero, List.set_cons_succ, i64_w, i32_w]
              rfl
            refine one_ (i := 3) (N := some 47) #[true, true, true, true, false] rfl rfl (by kernel_rfl) (by decide) (fun K hK => ?_)
            refine goes_ Try.func71 (by kernel_rfl) rfl #[.agg #[.slice Ao22 t1550.length co22], .agg #[.slice Ao34 t1557.length co34]] (by rfl) rfl rfl (by (try simp only [List.map_toArray, List.map_cons, List.map_nil]); first | done | rfl | (simp only [List.length_drop, List.length_take]; rfl)) ?_
            with_reducible refine (laws_eqFlash.calls kj10 _ _ t1550 _ _ t1557 true _ ?side1 ?side2 ?side3 ?side4 A30.out).mono ?_
            (case side1 => repeat (first | exact (Kd.S_reads' HO_1554000.out).2.2 | (with_reducible refine Kd.C_alloc ?_ _) | (with_reducible refine Kd.C_drewN ?_ _) | (with_reducible refine Kd.C_drew ?_)))
            (case side2 => exact (Kd.S_reads' HO_1554000.out).2.1)
            (case side3 => repeat (first | exact (Kd.S_reads' HO1559.out).2.2 | (with_reducible refine Kd.C_alloc ?_ _) | (with_reducible refine Kd.C_drewN ?_ _) | (with_reducible refine Kd.C_drew ?_)))
            (case side4 => exact (Kd.S_reads' HO1559.out).2.1)
            rintro e w35 ⟨rfl, hb⟩
            refine ⟨_, rfl, ?_⟩
            have n0_ := Aside0.mk (Kd.S_below (by (with_reducible repeat (first | apply Kd.S_alloc | apply Kd.S_drewN | apply Kd.S_drew)); exact HO_1554000.out) hb)
            have n1_ := Aside0.mk (Kd.S_below (by (with_reducible repeat (first | apply Kd.S_alloc | apply Kd.S_drewN | apply Kd.S_drew)); exact HO1559.out) hb)
            have n2_ := Aside0.mk (blk_below (g := gb1542) (o := .cells #[.slice A0_0 l0_0.length c0_0] 108 (0, 0)) (by (with_reducible repeat (first | refine blk_drewN ?_ _ | refine blk_drew ?_ | refine blk_alloc ?_ _)); exact BK1542.out) hb)
            have n3_ := Aside0.mk (blk_below (g := gb1553) (o := .cells #[.slice Ao22 t1550.length co22] 63 (0, 0)) (by (with_reducible repeat (first | refine blk_drewN ?_ _ | refine blk_drew ?_ | refine blk_alloc ?_ _)); exact BK1553.out) hb)
            have n4_ := Aside0.mk (below_step (by repeat (first | (with_reducible first | exact HB.out | apply below_alloc | apply pw_below_drewN | apply below_drew1 | refine below_set ?_ GE1542.out | refine below_set ?_ GE1553.out) | exact HB.out)) hb)
            clear HO_1554000
            clear HO1559
            clear BK1542
            clear BK1553
            clear HB
            have HO_1554000 := n0_
            have HO1559 := n1_
            have BK1542 := n2_
            have BK1553 := n3_
            have HB := n4_
            clear n0_ n1_ n2_ n3_ n4_
            (try clear hb)
            (try clear hb2)
            (try clear hk)
            (try clear hi)
            refine hK.out _ _ ⟨(blk_cell BK1553.out 0).trans rfl, (blk_cell BK1542.out 0).trans rfl⟩ (fun hHeld => ?_)
            clear hK K
            refine norm_ (a' := ?_) ?_ ?_
            rotate_left
            · show Act.put _ (some 47) _ = _
              simp only [Act.put, List.setIfInBounds_toArray, List.set_cons_zero, List.set_cons_succ, i64_w, i32_w]
              rfl
            refine pure_ (i := 4) (N := some 48) (v := ?_) (a' := ?_) #[true, true, true, true, true] rfl rfl (by kernel_rfl) (fun _ _ _ h => h) (Or.inl ⟨by rfl, ?_⟩) ?_ ?_
            rotate_left
            · intro w'
              go_simp
              with_reducible rfl
            rotate_left
            · simp only [Act.put, List.setIfInBounds_toArray, List.set_cons_zero, List.set_cons_succ, i64_w, i32_w]
              rfl
            refine done_ (by kernel_rfl) ?_
            try go_wp2
            go_ret
            exact ⟨by first | rfl | (simp [errW_none, errW_some] <;> rfl) | (simp [*, errW_none, errW_some] <;> rfl), by repeat (first | (with_reducible first | exact HB.out | apply below_alloc | apply pw_below_drewN | apply below_drew1 | refine below_set ?_ GE1542.out | refine below_set ?_ GE1553.out) | exact HB.out)⟩
          · replace c31 := Bool.eq_false_iff.mpr c31
            subst c31
            have H1 : (some false) = some r := by rw [if_neg (show ¬ (false = true) by decide)] at H; exact H
            clear H
            have H := H1
            clear H1
            exact absurd ((Option.some.inj H).trans hT.out) (by decide)

end Go.Proofs.Ytdolplcbokioaaa.PB

/- What a law's arguments, read as data, are as the print's kinds. -/
namespace Go.Proofs.Ytdolplcbokioaaa.Open
open Go.RowKit Go.Proofs.YtdolplcbokioaaaW.PrintWords

/-- A datum that is read at type t is of kind d, and each such y meets wf. -/
def Opn {α : Type} (P : Program) (t : TypeId) (d : Kd α) (wf : α → Prop) : Prop :=
  ∀ (H : Type) (enc : TypeId × Value → H) (w : World) (base : Nat) (spare : Nat → Bool) (held : Bool) (fuel : Nat) (cs : List Value) (x : DataW H × List MemPlace),
    DataW.trod enc P w base spare held fuel t cs = some x → ∃ y : α, d.K w y cs ∧ wf y

theorem opn_int {P : Program} {t : TypeId} {k : IntKind} (hu : P.underlying t = some (.int k)) : Opn P t (Kd.int k) (fun n => (Lit.int k n).wf = true) := by
  intro H enc w base spare held fuel cs x h
  obtain ⟨n, rfl, _, hw⟩ := DataW.trod_int hu h
  exact ⟨n, rfl, hw⟩
theorem opn_bool {P : Program} {t : TypeId} (hu : P.underlying t = some .bool) : Opn P t Kd.bool (fun _ => True) := by
  intro H enc w base spare held fuel cs x h
  obtain ⟨n, rfl, _⟩ := DataW.trod_bool hu h
  exact ⟨n, rfl, trivial⟩
theorem opn_string {P : Program} {t : TypeId} (hu : P.underlying t = some .string) : Opn P t Kd.string (fun s => s.size ≤ maxLen) := by
  intro H enc w base spare held fuel cs x h
  obtain ⟨n, rfl, _, hw⟩ := DataW.trod_string hu h
  exact ⟨n, rfl, hw⟩
theorem choose_list {α : Type} {Q : Nat → α → Prop} : ∀ (n : Nat), (∀ i, i < n → ∃ y, Q i y) → ∃ ys : List α, ys.length = n ∧ ∀ i y, ys[i]? = some y → Q i y
  | 0, _ => ⟨[], rfl, fun i y h => by simp at h⟩
  | n + 1, h => by
    obtain ⟨ys, hl, hq⟩ := choose_list n (fun i hi => h i (by omega))
    obtain ⟨y, hy⟩ := h n (by omega)
    refine ⟨ys ++ [y], by simp [hl], fun i z hz => ?_⟩
    rcases Nat.lt_or_ge i ys.length with hi | hi
    · rw [List.getElem?_append_left hi] at hz
      exact hq i z hz
    · rw [List.getElem?_append_right hi] at hz
      have hi2 : i - ys.length = 0 := by
        have := (List.getElem?_eq_some_iff.1 hz).1
        simp at this
        omega
      rw [hi2] at hz
      have : i = n := by omega
      subst this
      simp at hz
      subst hz
      exact hy
theorem adds (a : Addr) (m n : Nat) : (a.add m).add n = a.add (m + n) := by
  unfold Addr.add
  by_cases h1 : m = 0 <;> by_cases h2 : n = 0 <;> simp_all [Nat.add_assoc]
theorem opn_slice {α : Type} {P : Program} {t e : TypeId} {d : Kd α} {wf : α → Prop} (hu : P.underlying t = some (.slice e)) (hc : P.cellsOf e = d.sz) (ho : Opn P e d wf) :
    Opn P t (Kd.slice e d) (fun xs => xs.length ≤ maxLen ∧ ∀ x ∈ xs, wf x) := by
  intro H enc w base spare held fuel cs x h
  rcases DataW.trod_slice hu h with ⟨rfl, _⟩ | ⟨a, len, cap, elems, rest, n, _, rfl, _, hb, hl, hm, hlen, hel, _, _⟩
  · refine ⟨[], ⟨none, 0, rfl, Nat.le_refl _, rfl, by simp, fun h0 => absurd h0 (by simp)⟩, by simp, fun x hx => absurd hx (by simp)⟩
  · have each : ∀ i, i < len → ∃ y : α, ∃ c : List Value, (c.length = d.sz ∧ d.K w y c ∧ ∀ j u, c[j]? = some u → w.cell? (a.add (i * d.sz + j)) = some u) ∧ wf y := by
      intro i hi
      have h1 := hel i hi
      rw [List.getElem?_eq_getElem (by omega), Option.bind_eq_some_iff, hc] at h1
      obtain ⟨c, h2, h3⟩ := h1
      obtain ⟨_, hcl, hcell⟩ := World.cells?_some h2
      obtain ⟨y, hk, hw⟩ := ho H enc w base spare held n c _ h3
      refine ⟨y, c, ⟨hcl, hk, fun j u hj => ?_⟩, hw⟩
      have hjl : j < c.length := (List.getElem?_eq_some_iff.1 hj).1
      rw [← adds, hcell j (by omega), hj]
    obtain ⟨ys, hyl, hys⟩ := choose_list len each
    have hml : len ≤ maxLen := Nat.le_trans hl hm
    refine ⟨ys, ⟨some a, cap, by rw [hyl], by rw [hyl]; exact hl, rfl, by rw [hyl]; simpa only [maxLen] using hml, fun _ => ⟨a, rfl, fun j p hj => ?_⟩⟩, by rw [hyl]; exact hml, fun y hy => ?_⟩
    · obtain ⟨c, hq, _⟩ := hys j p hj
      exact ⟨c, hq⟩
    · obtain ⟨j, hj, he⟩ := List.getElem_of_mem hy
      obtain ⟨_, _, hw⟩ := hys j y (by rw [List.getElem?_eq_getElem hj, he])
      exact hw

/-- The fields fs, read off the cells from off on, are of kind d. -/
def OpnF {α : Type} (P : Program) (fs : List Field) (off : Nat) (d : Kd α) (wf : α → Prop) : Prop :=
  ∀ (H : Type) (enc : TypeId × Value → H) (w : World) (base : Nat) (spare : Nat → Bool) (held : Bool) (fuel : Nat) (cs : List Value), cs.length = off + d.sz →
    (∀ f ∈ fs, ∃ x, DataW.trod enc P w base spare held fuel f.type ((cs.drop f.offset).take (P.cellsOf f.type)) = some x) → ∃ y : α, d.K w y (cs.drop off) ∧ wf y
theorem opnF_one {α : Type} {P : Program} {f : Field} {off : Nat} {d : Kd α} {wf : α → Prop} (hoff : f.offset = off) (hc : P.cellsOf f.type = d.sz) (ho : Opn P f.type d wf) : OpnF P [f] off d wf := by
  intro H enc w base spare held fuel cs hl h
  obtain ⟨x, hx⟩ := h f (by simp)
  obtain ⟨y, hk, hw⟩ := ho H enc w base spare held fuel _ x hx
  rw [hoff, hc, List.take_of_length_le (by rw [List.length_drop]; omega)] at hk
  exact ⟨y, hk, hw⟩
theorem opnF_cons {α β : Type} {P : Program} {f : Field} {fs : List Field} {off : Nat} {a : Kd α} {b : Kd β} {wa : α → Prop} {wb : β → Prop} (hoff : f.offset = off) (hc : P.cellsOf f.type = a.sz) (ho : Opn P f.type a wa) (hr : OpnF P fs (off + a.sz) b wb) :
    OpnF P (f :: fs) off (Kd.pair a b) (fun p => wa p.1 ∧ wb p.2) := by
  intro H enc w base spare held fuel cs hl h
  obtain ⟨x, hx⟩ := h f (by simp)
  obtain ⟨y, hk, hw⟩ := ho H enc w base spare held fuel _ x hx
  have hsz : (Kd.pair a b).sz = a.sz + b.sz := rfl
  obtain ⟨z, hk2, hw2⟩ := hr H enc w base spare held fuel cs (by omega) (fun g hg => h g (List.mem_cons_of_mem _ hg))
  rw [hoff, hc] at hk
  refine ⟨(y, z), ⟨(cs.drop off).take a.sz, cs.drop (off + a.sz), ?_, hk, hk2⟩, hw, hw2⟩
  rw [← List.drop_drop, List.take_append_drop]
theorem opn_tuple {α : Type} {P : Program} {t : TypeId} {fs : List Field} {d : Kd α} {wf : α → Prop} (hu : P.underlying t = some (.struct fs.toArray)) (hc : P.cellsOf t = d.sz) (ho : OpnF P fs 0 d wf) :
    Opn P t d wf := by
  intro H enc w base spare held fuel cs x h
  obtain ⟨xs, n, _, _, hl, hlen, hf⟩ := DataW.trod_struct hu h
  obtain ⟨y, hk, hw⟩ := ho H enc w base spare held n cs (by omega) (fun fl hfl => by
    obtain ⟨i, hi, he⟩ := List.getElem_of_mem hfl
    have h1 := hf i fl (by simpa using (List.getElem?_eq_getElem hi).trans (congrArg some he))
    have hlen2 : xs.length = fs.length := by simpa using hlen
    exact ⟨xs[i]'(by omega), by rw [h1, List.getElem?_eq_getElem]⟩)
  exact ⟨y, by simpa using hk, hw⟩
theorem opn_struct {α β : Type} {P : Program} {t : TypeId} {fs : List Field} {d : Kd α} {wf : α → Prop} (f : β → α) (g : α → β) (hfg : ∀ a, f (g a) = a) (hu : P.underlying t = some (.struct fs.toArray)) (hc : P.cellsOf t = d.sz) (ho : OpnF P fs 0 d wf) :
    Opn P t (Kd.iso d f) (fun y => wf (f y)) := by
  intro H enc w base spare held fuel cs x h
  obtain ⟨xs, n, _, _, hl, hlen, hf⟩ := DataW.trod_struct hu h
  obtain ⟨y, hk, hw⟩ := ho H enc w base spare held n cs (by omega) (fun fl hfl => by
    obtain ⟨i, hi, he⟩ := List.getElem_of_mem hfl
    have h1 := hf i fl (by simpa using (List.getElem?_eq_getElem hi).trans (congrArg some he))
    have hlen2 : xs.length = fs.length := by simpa using hlen
    exact ⟨xs[i]'(by omega), by rw [h1, List.getElem?_eq_getElem]⟩)
  exact ⟨g y, by show d.K w (f (g y)) cs; rw [hfg]; simpa using hk, by show wf (f (g y)); rw [hfg]; exact hw⟩
end Go.Proofs.Ytdolplcbokioaaa.Open

/- Plain facts on rounds, lists and whole numbers, for the pure statements. -/
namespace Go.Proofs.Ytdolplcbokioaaa.Pu
set_option linter.unusedVariables false
set_option linter.unusedSimpArgs false
open Go.RowKit Go.Proofs.YtdolplcbokioaaaW.PrintWords

theorem w64 {x : Int} (h1 : -9223372036854775808 ≤ x) (h2 : x ≤ 9223372036854775807) : wrap64 x = x := by
  unfold wrap64; omega
theorem wsucc {i n : Nat} (h : i < n) (hn : n ≤ 9223372036854775807) : wrap64 ((i : Int) + 1) = ((i + 1 : Nat) : Int) := by
  rw [w64 (by omega) (by omega)]; rfl
theorem wf_i64 {n : Int} (h : (Lit.int .i64 n).wf = true) : -9223372036854775808 ≤ n ∧ n ≤ 9223372036854775807 := by
  simp only [Lit.wf, Bool.and_eq_true, decide_eq_true_eq] at h
  have h1 : IntKind.min .i64 = -9223372036854775808 := by decide
  have h2 : IntKind.max .i64 = 9223372036854775807 := by decide
  omega

/-- Rounds: what is told, a step on. -/
theorem ev_some {α : Type} {g : Nat → Option α} {r : α} (h : ∀ k, g (k + 1) = some r) : Ev g r := Ev.step h (Ev.now r)
theorem ev_const {α : Type} {o : Option α} {r : α} (h : o = some r) : Ev (fun _ => o) r := ⟨0, fun _ _ => h⟩
theorem ev_bind {α β : Type} {g : Nat → Option α} {f : Nat → α → Option β} {a : α} {r : β} (h : Ev g a) (k : Ev (fun n => f n a) r) : Ev (fun n => (g n).bind (f n)) r := Ev.bind h k
theorem ev_uniq {α : Type} {g : Nat → Option α} {a b : α} (h : Ev g a) (k : Ev g b) : a = b := by
  obtain ⟨K, hK⟩ := h
  obtain ⟨M, hM⟩ := k
  have h1 := hK (max K M) (Nat.le_max_left _ _)
  rw [hM (max K M) (Nat.le_max_right _ _)] at h1
  injection h1 with h1
  exact h1.symm
theorem ev_ext {α : Type} {g f : Nat → Option α} {r : α} (h : ∀ k, g k = f k) (k : Ev f r) : Ev g r := Ev.congr h k

/-- A row that is made and filled, place by place. -/
theorem ev_fill {β : Type} {L : Nat → List β → Int → Option (List β)} {E : Nat → Int → Option β} {n : Nat} {e : Nat → β} (hn : n ≤ 9223372036854775807)
    (hs : ∀ k xs i, L (k + 1) xs i = if i < (n : Int) then (if 0 ≤ i then ((E k i).bind fun b => if i < (xs.length : Int) then L k (xs.set i.toNat b) (wrap64 (i + 1)) else none) else none) else some xs)
    (hE : ∀ i, i < n → Ev (fun k => E k (i : Int)) (e i)) :
    ∀ (d i : Nat) (xs : List β), xs.length = n → i + d = n → Ev (fun k => L k xs (i : Int)) (xs.take i ++ (List.range' i d).map e) := by
  intro d
  induction d with
  | zero =>
    intro i xs hl hi
    refine ev_some fun k => ?_
    rw [hs, if_neg (by omega)]
    simp [List.take_of_length_le (show xs.length ≤ i by omega)]
  | succ d ih =>
    intro i xs hl hi
    refine Ev.step (f := fun k => (E k (i : Int)).bind fun b => L k (xs.set i b) ((i + 1 : Nat) : Int)) (fun k => ?_) ?_
    · rw [hs, if_pos (by omega), if_pos (by omega), wsucc (n := n) (by omega) hn]
      congr 1
      funext b
      rw [if_pos (by omega)]
      rfl
    · refine ev_bind (hE i (by omega)) ?_
      have h := ih (i + 1) (xs.set i (e i)) (by rw [List.length_set]; exact hl) (by omega)
      have e1 : (xs.set i (e i)).take (i + 1) ++ (List.range' (i + 1) d).map e = xs.take i ++ (List.range' i (d + 1)).map e := by
        rw [List.range'_succ, List.map_cons, List.take_succ_eq_append_getElem (by rw [List.length_set]; omega), List.getElem_set_self, List.take_set_of_le (Nat.le_refl _)]
        simp
      rw [e1] at h
      exact h
theorem map_range {α β : Type} (l : List α) (z : α) (g : α → β) : (List.range' 0 l.length).map (fun i => g (l.getD i z)) = l.map g := by
  apply List.ext_getElem
  · simp
  · intro i h1 h2
    simp only [List.length_map] at h2
    simp [List.getD_eq_getElem?_getD, List.getElem?_eq_getElem h2]
theorem ev_fill_all {α β : Type} {L : Nat → List β → Int → Option (List β)} {E : Nat → Int → Option β} {l : List α} {z : α} {g : α → β} {xs : List β} (hn : l.length ≤ 9223372036854775807)
    (hs : ∀ k xs i, L (k + 1) xs i = if i < (l.length : Int) then (if 0 ≤ i then ((E k i).bind fun b => if i < (xs.length : Int) then L k (xs.set i.toNat b) (wrap64 (i + 1)) else none) else none) else some xs)
    (hE : ∀ i, i < l.length → Ev (fun k => E k (i : Int)) (g (l.getD i z))) (hx : xs.length = l.length) : Ev (fun k => L k xs 0) (l.map g) := by
  have h := ev_fill (e := fun i => g (l.getD i z)) hn hs hE l.length 0 xs hx (by omega)
  rw [map_range] at h
  simpa using h

/-- Every place meets a test, tried place by place. -/
theorem ev_all {L E : Nat → Int → Option Bool} {n m : Nat} (hn : n ≤ 9223372036854775807) (hnm : n ≤ m)
    (hs : ∀ k i, L (k + 1) i = if i < (n : Int) then (if 0 ≤ i then (if i < (m : Int) then ((E k i).bind fun b => if b = true then L k (wrap64 (i + 1)) else some false) else none) else none) else some true)
    (hE : ∀ i, i < n → Ev (fun k => E k (i : Int)) true) : ∀ (d i : Nat), i + d = n → Ev (fun k => L k (i : Int)) true := by
  intro d
  induction d with
  | zero => intro i hi; exact ev_some fun k => by rw [hs, if_neg (by omega)]
  | succ d ih =>
    intro i hi
    refine Ev.step (f := fun k => (E k (i : Int)).bind fun b => if b = true then L k ((i + 1 : Nat) : Int) else some false) (fun k => ?_) (ev_bind (hE i (by omega)) (by simpa using ih (i + 1) (by omega)))
    rw [hs, if_pos (by omega), if_pos (by omega), if_pos (by omega), wsucc (n := n) (by omega) hn]

/-- What is left of a number, place by place, as long as it is not below 0. -/
theorem ev_size {L E : Nat → Int → Int → Option Int} {n : Nat} {P : Nat → Prop} (hn : n ≤ 9223372036854775807)
    (hs : ∀ k a i, L (k + 1) a i = if i < (n : Int) then (if 0 ≤ i then ((E k i a).bind fun t => if t < 0 then some (-1) else L k t (wrap64 (i + 1))) else none) else some a)
    (hE : ∀ i a, i < n → 0 ≤ a → a ≤ 1048576 → ∃ t, Ev (fun k => E k (i : Int) a) t ∧ t ≤ a ∧ (0 ≤ t → P i)) :
    ∀ (d i : Nat) (a : Int), i + d = n → 0 ≤ a → a ≤ 1048576 → ∃ r, Ev (fun k => L k a (i : Int)) r ∧ r ≤ a ∧ (0 ≤ r → ∀ m, i ≤ m → m < n → P m) := by
  intro d
  induction d with
  | zero => intro i a hi h0 h1; exact ⟨a, ev_some fun k => by rw [hs, if_neg (by omega)], Int.le_refl _, fun _ m h2 h3 => by omega⟩
  | succ d ih =>
    intro i a hi h0 h1
    obtain ⟨t, ht, hta, hp⟩ := hE i a (by omega) h0 h1
    have hst : ∀ k, L (k + 1) a (i : Int) = (E k (i : Int) a).bind fun t => if t < 0 then some (-1) else L k t ((i + 1 : Nat) : Int) := fun k => by
      rw [hs, if_pos (by omega), if_pos (by omega), wsucc (n := n) (by omega) hn]
    by_cases hneg : t < 0
    · exact ⟨-1, Ev.step hst (ev_bind ht (by simp only [if_pos hneg]; exact Ev.now _)), by omega, fun h => by omega⟩
    · obtain ⟨r, hr, hra, hq⟩ := ih (i + 1) t (by omega) (by omega) (by omega)
      refine ⟨r, Ev.step hst (ev_bind ht (by simp only [if_neg hneg]; exact hr)), by omega, fun h0r m h2 h3 => ?_⟩
      by_cases e : m = i
      · subst e; exact hp (by omega)
      · exact hq h0r m (by omega) h3
end Go.Proofs.Ytdolplcbokioaaa.Pu

/- More plain facts on rounds: tests in a row, folds, searches. -/
namespace Go.Proofs.Ytdolplcbokioaaa.Pu
set_option linter.unusedVariables false
set_option linter.unusedSimpArgs false
open Go.RowKit Go.Proofs.YtdolplcbokioaaaW.PrintWords

/-- Tests in a row, one a round; then what comes. -/
theorem ev_scan {L : Nat → Int → Option Bool} {g : Nat → Option Bool} {n : Nat} {T : Nat → Bool} {r : Bool}
    (hs : ∀ k i, i < n → L (k + 1) (i : Int) = if T i = true then L k ((i + 1 : Nat) : Int) else some false) (he : ∀ k, L (k + 1) (n : Int) = g k) (hr : Ev g r) :
    ∀ (d i : Nat), i + d = n → Ev (fun k => L k (i : Int)) ((List.range' i d).all T && r) := by
  intro d
  induction d with
  | zero =>
    intro i hi
    obtain rfl : i = n := by omega
    exact Ev.step he hr
  | succ d ih =>
    intro i hi
    rw [List.range'_succ, List.all_cons]
    by_cases h : T i = true
    · rw [h, Bool.true_and]
      exact Ev.step (fun k => by rw [hs k i (by omega), if_pos h]) (ih (i + 1) (by omega))
    · rw [Bool.eq_false_iff.mpr h, Bool.false_and, Bool.false_and]
      exact ev_some fun k => by rw [hs k i (by omega), if_neg h]
/-- Tests in a row, each of many rounds; then what comes. -/
theorem ev_outer {L : Nat → Int → Option Bool} {n : Nat} {T : Nat → Bool} {r0 : Bool}
    (hs : ∀ i r, i < n → Ev (fun k => L k ((i + 1 : Nat) : Int)) r → Ev (fun k => L k (i : Int)) (T i && r)) (he : Ev (fun k => L k (n : Int)) r0) :
    ∀ (d i : Nat), i + d = n → Ev (fun k => L k (i : Int)) ((List.range' i d).all T && r0) := by
  intro d
  induction d with
  | zero =>
    intro i hi
    obtain rfl : i = n := by omega
    exact he
  | succ d ih =>
    intro i hi
    rw [List.range'_succ, List.all_cons, Bool.and_assoc]
    exact hs i _ (by omega) (ih (i + 1) (by omega))
/-- A state that is carried along; then what comes. -/
theorem ev_fold {σ ρ : Type} {L : Nat → σ → Int → Option ρ} {n : Nat} {F : σ → Nat → σ} {fin : σ → ρ} (Inv : Nat → σ → Prop)
    (hs : ∀ s i, i < n → Inv i s → ∀ r, Ev (fun k => L k (F s i) ((i + 1 : Nat) : Int)) r → Ev (fun k => L k s (i : Int)) r) (hi : ∀ s i, i < n → Inv i s → Inv (i + 1) (F s i))
    (he : ∀ s, Inv n s → Ev (fun k => L k s (n : Int)) (fin s)) : ∀ (d i : Nat) (s : σ), i + d = n → Inv i s → Ev (fun k => L k s (i : Int)) (fin ((List.range' i d).foldl F s)) := by
  intro d
  induction d with
  | zero =>
    intro i s h hv
    obtain rfl : i = n := by omega
    exact he s hv
  | succ d ih =>
    intro i s h hv
    rw [List.range'_succ, List.foldl_cons]
    exact hs s i (by omega) hv _ (ih (i + 1) (F s i) (by omega) (hi s i (by omega) hv))
/-- The first place that meets a test, -1 without one. -/
def findI (T : Nat → Bool) : Nat → Nat → Int
  | _, 0 => -1
  | i, d + 1 => if T i = true then (i : Int) else findI T (i + 1) d
theorem ev_find {L : Nat → Int → Option Int} {n : Nat} {T : Nat → Bool}
    (hy : ∀ i, i < n → T i = true → Ev (fun k => L k (i : Int)) (i : Int)) (hn : ∀ i, i < n → T i = false → ∀ r, Ev (fun k => L k ((i + 1 : Nat) : Int)) r → Ev (fun k => L k (i : Int)) r)
    (he : Ev (fun k => L k (n : Int)) (-1)) : ∀ (d i : Nat), i + d = n → Ev (fun k => L k (i : Int)) (findI T i d) := by
  intro d
  induction d with
  | zero =>
    intro i hi
    obtain rfl : i = n := by omega
    exact he
  | succ d ih =>
    intro i hi
    unfold findI
    by_cases h : T i = true
    · rw [if_pos h]; exact hy i (by omega) h
    · rw [if_neg h]; exact hn i (by omega) (Bool.eq_false_iff.mpr h) _ (ih (i + 1) (by omega))
theorem findI_range {T : Nat → Bool} : ∀ (d i : Nat), findI T i d = -1 ∨ ∃ j, i ≤ j ∧ j < i + d ∧ findI T i d = (j : Int) ∧ T j = true
  | 0, i => .inl rfl
  | d + 1, i => by
    unfold findI
    by_cases h : T i = true
    · rw [if_pos h]; exact .inr ⟨i, Nat.le_refl _, by omega, rfl, h⟩
    · rw [if_neg h]
      rcases findI_range d (i + 1) with h1 | ⟨j, h1, h2, h3, h4⟩
      · exact .inl h1
      · exact .inr ⟨j, by omega, by omega, h3, h4⟩
theorem bytes_empty (a : ByteArray) : (a.toList == ([] : List UInt8)) = decide ((a.size : Int) ≤ 0) := by
  rw [ByteArray.toList_eq]
  have h : a.data.toList.length = a.size := by rw [Array.length_toList]; rfl
  cases e : a.data.toList with
  | nil =>
    have h1 : a.size = 0 := by rw [← h, e]; rfl
    rw [decide_eq_true (by omega)]; rfl
  | cons x l =>
    have h1 : a.size = l.length + 1 := by rw [← h, e]; rfl
    rw [decide_eq_false (by omega)]; rfl
theorem getD_mem' {α : Type} {l : List α} {i : Nat} {z : α} (hi : i < l.length) : l.getD i z ∈ l := by
  rw [List.getD_eq_getElem?_getD, List.getElem?_eq_getElem hi]; exact List.getElem_mem hi
end Go.Proofs.Ytdolplcbokioaaa.Pu

/- What the functions on flashes answer: sizes, copies, comparison. -/
namespace Go.Proofs.Ytdolplcbokioaaa.Pu
set_option linter.unusedVariables false
set_option linter.unusedSimpArgs false
open Go.RowKit Go.Proofs.Ytdolplcbokioaaa.PB Go.Proofs.YtdolplcbokioaaaW.PrintWords

theorem rdLB_nat (l : List S191) (i : Nat) : rd_T191 l (i : Int) = l.getD i z191 := rfl
theorem rdIB_nat (l : List S71) (i : Nat) : rd_T71 l (i : Int) = l.getD i z71 := rfl
theorem rdLL_nat (l : List S213) (i : Nat) : rd_T213 l (i : Int) = l.getD i z213 := rfl
theorem rdIL_nat (l : List S142) (i : Nat) : rd_T142 l (i : Int) = l.getD i z142 := rfl

def toLf (x : S213) : S142 := ⟨x.f0, x.f1⟩
def toBk (x : S191) : S71 := ⟨x.f0, x.f1, x.f2.map toLf⟩
def toFl (l : List S191) : List S71 := l.map toBk

theorem toLeafS_ev (l : List S213) (h : l.length ≤ 1048576) : Ev (fun k => laws_toLeafS.f k l) (l.map toLf) := by
  have h1 := ev_fill_all (E := fun _ i => (laws_toLeaf.f (rd_T213 l i).f0 (rd_T213 l i).f1).bind fun bt => some (⟨bt.1, bt.2⟩ : S142)) (l := l) (z := z213) (g := toLf) (xs := List.replicate l.length z142) (L := fun k xs i => laws_toLeafS.l0 k l xs i) (by omega) (fun k xs i => by
    simp only [laws_toLeafS.l0, Option.bind_assoc, Option.bind_some]) (fun i hi => by rw [rdLL_nat]; exact Ev.now _) (by simp)
  refine ev_ext (fun k => ?_) h1
  unfold laws_toLeafS.f
  rw [if_pos (by omega), if_pos (by simp; omega)]
  simp
theorem toBlock_ev (b : Bool) (n : Int) (l : List S213) (h : l.length ≤ 1048576) : Ev (fun k => laws_toBlock.f k b n l) (b, n, l.map toLf) := by
  unfold laws_toBlock.f
  exact ev_bind (toLeafS_ev l h) (Ev.now _)
theorem toFlash_ev (l : List S191) (h : l.length ≤ 1048576) (hk : ∀ x ∈ l, x.f2.length ≤ 1048576) : Ev (fun k => laws_toFlash.f k l) (toFl l) := by
  have h1 := ev_fill_all (E := fun k i => (laws_toBlock.f k (rd_T191 l i).f0 (rd_T191 l i).f1 (rd_T191 l i).f2).bind fun bt => some (⟨bt.1, bt.2.1, bt.2.2⟩ : S71)) (l := l) (z := z191) (g := toBk) (xs := List.replicate l.length z71) (L := fun k xs i => laws_toBlockS.l0 k l xs i) (by omega) (fun k xs i => by
    simp only [laws_toBlockS.l0, Option.bind_assoc, Option.bind_some]) (fun i hi => by
      rw [rdLB_nat]
      exact ev_bind (toBlock_ev _ _ _ (hk _ (getD_mem' hi))) (Ev.now _)) (by simp)
  unfold laws_toFlash.f
  refine ev_bind (ev_ext (fun k => ?_) h1) (Ev.now _)
  unfold laws_toBlockS.f
  rw [if_pos (by omega), if_pos (by simp; omega)]
  simp

theorem eqLeafS_ev (l : List S142) (hn : l.length ≤ 1048576) : Ev (fun k => laws_eqLeafS.f k l l) true := by
  have h1 := ev_all (n := l.length) (m := l.length) (L := fun k i => laws_eqLeafS.l0 k l l i) (E := fun _ i => laws_eqLeaf.f (rd_T142 l i).f0 (rd_T142 l i).f1 (rd_T142 l i).f0 (rd_T142 l i).f1) (by omega) (Nat.le_refl _) (fun k i => by simp only [laws_eqLeafS.l0])
    (fun i _ => ev_const (by simp [laws_eqLeaf.f])) l.length 0 (by omega)
  refine ev_ext (fun k => ?_) h1
  unfold laws_eqLeafS.f
  rw [if_pos rfl]; rfl
theorem eqFlash_ev (l : List S71) (hn : l.length ≤ 1048576) (hk : ∀ x ∈ l, x.f2.length ≤ 1048576) : Ev (fun k => laws_eqFlash.f k l l) true := by
  have h1 := ev_all (n := l.length) (m := l.length) (L := fun k i => laws_eqBlockS.l0 k l l i) (E := fun k i => laws_eqBlock.f k (rd_T71 l i).f0 (rd_T71 l i).f1 (rd_T71 l i).f2 (rd_T71 l i).f0 (rd_T71 l i).f1 (rd_T71 l i).f2) (by omega) (Nat.le_refl _) (fun k i => by simp only [laws_eqBlockS.l0])
    (fun i hi => by
      rw [rdIB_nat]
      unfold laws_eqBlock.f
      simp only [bne_self_eq_false, Bool.false_eq_true, if_false, if_true]
      exact ev_bind (eqLeafS_ev _ (hk _ (getD_mem' hi))) (by simp only [if_true]; exact Ev.now _)) l.length 0 (by omega)
  unfold laws_eqFlash.f
  refine ev_bind (ev_ext (fun k => ?_) h1) (by simp only [if_true]; exact Ev.now _)
  unfold laws_eqBlockS.f
  rw [if_pos rfl]; rfl

theorem szLeafS_ev (l : List S213) (a : Int) (h0 : 0 ≤ a) (h1 : a ≤ 1048576) (hn : l.length ≤ 9223372036854775807) (hk : ∀ x ∈ l, x.f1.size ≤ 9223372036854775807) :
    ∃ r, Ev (fun k => laws_szLeafS.f k l a) r ∧ r ≤ a ∧ (0 ≤ r → (l.length : Int) ≤ a ∧ ∀ x ∈ l, (x.f1.size : Int) ≤ 1048576) := by
  by_cases h : a - (l.length : Int) < 0
  · refine ⟨-1, ⟨0, fun k _ => ?_⟩, by omega, fun h2 => by omega⟩
    show laws_szLeafS.f k l a = _
    unfold laws_szLeafS.f
    rw [w64 (by omega) (by omega), if_pos h]
  · obtain ⟨r, hr, hra, hq⟩ := ev_size (n := l.length) (L := fun k a i => laws_szLeafS.l0 k l a i) (E := fun _ i a => laws_szLeaf.f (rd_T213 l i).f0 (rd_T213 l i).f1 a) (P := fun i => ((l.getD i z213).f1.size : Int) ≤ 1048576) hn (fun k a i => by simp only [laws_szLeafS.l0])
      (fun i a hi h2 h3 => by
        have hb := hk _ (getD_mem' (z := z213) hi)
        rw [rdLL_nat]
        unfold laws_szLeaf.f
        rw [w64 (by omega) (by omega)]
        by_cases h4 : a - ((l.getD i z213).f1.size : Int) < 0
        · exact ⟨-1, ev_const (by rw [if_pos h4]), by omega, fun h5 => by omega⟩
        · exact ⟨_, ev_const (by rw [if_neg h4]), by omega, fun _ => by omega⟩) l.length 0 (a - (l.length : Int)) (by omega) (by omega) (by omega)
    refine ⟨r, ev_ext (fun k => ?_) hr, by omega, fun h2 => ⟨by omega, fun x hx => ?_⟩⟩
    · unfold laws_szLeafS.f
      rw [w64 (by omega) (by omega), if_neg h]; rfl
    · obtain ⟨i, hi, rfl⟩ := List.getElem_of_mem hx
      have := hq h2 i (by omega) hi
      rwa [List.getD_eq_getElem?_getD, List.getElem?_eq_getElem hi] at this
theorem szFlash_ev (l : List S191) (a : Int) (h0 : 0 ≤ a) (h1 : a ≤ 1048576) (hn : l.length ≤ 9223372036854775807) (hk : ∀ x ∈ l, x.f2.length ≤ 9223372036854775807 ∧ ∀ y ∈ x.f2, y.f1.size ≤ 9223372036854775807) :
    ∃ r, Ev (fun k => laws_szFlash.f k l a) r ∧ r ≤ a ∧ (0 ≤ r → (l.length : Int) ≤ a ∧ ∀ x ∈ l, (x.f2.length : Int) ≤ 1048576 ∧ ∀ y ∈ x.f2, (y.f1.size : Int) ≤ 1048576) := by
  by_cases h : a - (l.length : Int) < 0
  · refine ⟨-1, ⟨0, fun k _ => ?_⟩, by omega, fun h2 => by omega⟩
    show laws_szFlash.f k l a = _
    unfold laws_szFlash.f laws_szBlockS.f
    rw [w64 (by omega) (by omega), if_pos h]
    rfl
  · obtain ⟨r, hr, hra, hq⟩ := ev_size (n := l.length) (L := fun k a i => laws_szBlockS.l0 k l a i) (E := fun k i a => laws_szBlock.f k (rd_T191 l i).f0 (rd_T191 l i).f1 (rd_T191 l i).f2 a) (P := fun i => ((l.getD i z191).f2.length : Int) ≤ 1048576 ∧ ∀ y ∈ (l.getD i z191).f2, (y.f1.size : Int) ≤ 1048576) hn (fun k a i => by simp only [laws_szBlockS.l0])
      (fun i a hi h2 h3 => by
        have hb := hk _ (getD_mem' (z := z191) hi)
        rw [rdLB_nat]
        obtain ⟨t, ht, hta, hp⟩ := szLeafS_ev (l.getD i z191).f2 a h2 h3 hb.1 hb.2
        unfold laws_szBlock.f
        by_cases h4 : t < 0
        · exact ⟨-1, ev_bind ht (by simp only [if_pos h4]; exact Ev.now _), by omega, fun h5 => by omega⟩
        · exact ⟨t, ev_bind ht (by simp only [if_neg h4]; exact Ev.now _), hta, fun h5 => ⟨by have := (hp h5).1; omega, (hp h5).2⟩⟩) l.length 0 (a - (l.length : Int)) (by omega) (by omega) (by omega)
    have hr2 : Ev (fun k => laws_szBlockS.f k l a) r := by
      refine ev_ext (fun k => ?_) hr
      unfold laws_szBlockS.f
      rw [w64 (by omega) (by omega), if_neg h]; rfl
    have hp : 0 ≤ r → (l.length : Int) ≤ a ∧ ∀ x ∈ l, (x.f2.length : Int) ≤ 1048576 ∧ ∀ y ∈ x.f2, (y.f1.size : Int) ≤ 1048576 := fun h2 => ⟨by omega, fun x hx => by
      obtain ⟨i, hi, rfl⟩ := List.getElem_of_mem hx
      have := hq h2 i (by omega) hi
      rwa [List.getD_eq_getElem?_getD, List.getElem?_eq_getElem hi] at this⟩
    unfold laws_szFlash.f
    by_cases h4 : r < 0
    · exact ⟨-1, ev_bind hr2 (by simp only [if_pos h4]; exact Ev.now _), by omega, fun h5 => by omega⟩
    · exact ⟨r, ev_bind hr2 (by simp only [if_neg h4]; exact Ev.now _), by omega, hp⟩
/-- What a law on a flash begins with. -/
theorem flash_start {l : List S191} (hl : l.length ≤ maxLen) (hx : ∀ x ∈ l, x.f2.length ≤ maxLen ∧ ∀ y ∈ x.f2, y.f1.size ≤ maxLen) :
    ∃ r, Ev (fun k => laws_szFlash.f k l 1048576) r ∧ (0 ≤ r → Ev (fun k => laws_toFlash.f k l) (toFl l) ∧ Ev (fun k => laws_eqFlash.f k (toFl l) (toFl l)) true ∧ (toFl l).length ≤ 1048576 ∧ ∀ x ∈ toFl l, x.f2.length ≤ 1048576 ∧ ∀ y ∈ x.f2, y.f1.size ≤ 1048576) := by
  unfold maxLen at hl hx
  obtain ⟨r, hr, _, hq⟩ := szFlash_ev l 1048576 (by omega) (by omega) (by omega) (fun x h => ⟨by have := (hx x h).1; omega, fun y hy => by have := (hx x h).2 y hy; omega⟩)
  refine ⟨r, hr, fun h0 => ?_⟩
  obtain ⟨h1, h2⟩ := hq h0
  have hlen : (toFl l).length = l.length := by unfold toFl; exact List.length_map _
  have hm : ∀ x ∈ toFl l, x.f2.length ≤ 1048576 ∧ ∀ y ∈ x.f2, y.f1.size ≤ 1048576 := by
    intro x h
    unfold toFl at h
    obtain ⟨y, hy, rfl⟩ := List.mem_map.1 h
    obtain ⟨a1, a2⟩ := h2 y hy
    refine ⟨by show (y.f2.map toLf).length ≤ _; rw [List.length_map]; omega, fun z hz => ?_⟩
    obtain ⟨q, hq2, rfl⟩ := List.mem_map.1 (show z ∈ y.f2.map toLf from hz)
    have := a2 q hq2
    show q.f1.size ≤ _
    omega
  exact ⟨toFlash_ev l (by omega) (fun x h => by have := (h2 x h).1; omega), eqFlash_ev _ (by omega) (fun x h => (hm x h).1), by omega, hm⟩
end Go.Proofs.Ytdolplcbokioaaa.Pu

/- When a flash is right, as one test; the program's and the reference's FlashOk answer it. -/
namespace Go.Proofs.Ytdolplcbokioaaa.Pu
set_option linter.unusedVariables false
set_option linter.unusedSimpArgs false
open Go.RowKit Go.Proofs.Ytdolplcbokioaaa.PB Go.Proofs.YtdolplcbokioaaaW.PrintWords

theorem inF_eq (a l h : Int) : impl_in.f a l h = some (decide (l ≤ a ∧ a ≤ h)) := by
  unfold impl_in.f
  by_cases h1 : a ≥ l
  · rw [if_pos h1]; congr 1; simp; omega
  · rw [if_neg h1]; congr 1; simp; omega
theorem l01InF_eq (a l h : Int) : spec_l01In.f a l h = some (decide (l ≤ a ∧ a ≤ h)) := by
  unfold spec_l01In.f
  by_cases h1 : a ≥ l
  · rw [if_pos h1]; congr 1; simp; omega
  · rw [if_neg h1]; congr 1; simp; omega

def leafB (x : S142) : Bool := if x.f0 = 0 then decide ((x.f1.size : Int) ≤ 0) else if x.f0 = 1 then decide (1 ≤ (x.f1.size : Int) ∧ (x.f1.size : Int) ≤ 120) else if x.f0 = 2 then decide ((x.f1.size : Int) ≤ 120) else false
/-- The leaf at place i of a block, and the one ahead of it. -/
def stepB (ls : List S142) (i : Nat) : Bool := leafB (ls.getD i z142) && (decide (i = 0) || !decide ((ls.getD (i - 1) z142).f0 = 0) || decide ((ls.getD i z142).f0 = 0))
def blockB (b : S71) : Bool := decide (b.f2.length = 4) && (decide (0 ≤ b.f1 ∧ b.f1 ≤ 1000000000) && (List.range' 0 b.f2.length).all (stepB b.f2))
def flashB (f : List S71) : Bool := (List.range' 0 f.length).all (fun i => blockB (f.getD i z71)) && decide (3 ≤ (f.length : Int) ∧ (f.length : Int) ≤ 10)

theorem sLeaf_eq (x : S142) : spec_l05Leaf.f x.f0 x.f1 = some (leafB x) := by
  unfold spec_l05Leaf.f leafB
  simp only [l01InF_eq, Option.bind_some, bytes_empty]
  repeat' split
  all_goals rfl
theorem iLeaf_eq (x : S142) : impl_leafOk.f x.f0 x.f1 = some (leafB x) := by
  unfold impl_leafOk.f leafB
  simp only [inF_eq, Option.bind_some, bytes_empty]
  repeat' split
  all_goals rfl
theorem sFlash_step (k : Nat) (a : Int) (f : List S71) (b : Bool) (n : Int) (ls : List S142) (i : Nat) (hi : i < ls.length) (hn : ls.length ≤ 1048576) :
    spec_FlashOk.l1 (k + 1) a (i : Int) f b n ls = if stepB ls i = true then spec_FlashOk.l1 k a ((i + 1 : Nat) : Int) f b n ls else some false := by
  simp only [spec_FlashOk.l1]
  rw [if_pos (by omega), if_pos (by omega), rdIL_nat, sLeaf_eq, wsucc (n := ls.length) hi (by omega), w64 (x := (i : Int) - 1) (by omega) (by omega)]
  simp only [Option.bind_some]
  unfold stepB
  by_cases h : leafB (ls.getD i z142) = true
  · rw [if_pos h, h, Bool.true_and]
    by_cases h0 : i = 0
    · subst h0
      simp
    · obtain ⟨j, rfl⟩ : ∃ j, i = j + 1 := ⟨i - 1, by omega⟩
      rw [if_pos (by omega), if_pos (by omega), if_pos (by omega), show ((j + 1 : Nat) : Int) - 1 = (j : Int) by omega, rdIL_nat, show j + 1 - 1 = j by omega]
      generalize (ls.getD j z142).f0 = u
      generalize (ls.getD (j + 1) z142).f0 = v
      by_cases h1 : u = 0 <;> by_cases h2 : v = 0 <;> simp [h1, h2]
  · rw [if_neg h, Bool.eq_false_iff.mpr h, Bool.false_and]
    rfl
theorem iFlash_step (k : Nat) (f : List S71) (a c : Int) (f2 : List S71) (b : Bool) (n : Int) (ls : List S142) (i : Nat) (hi : i < ls.length) (hn : ls.length ≤ 1048576) :
    impl_FlashOk.l1 (k + 1) f a c ls (ls.length : Int) (i : Int) f2 b n ls = if stepB ls i = true then impl_FlashOk.l1 k f a c ls (ls.length : Int) ((i + 1 : Nat) : Int) f2 b n ls else some false := by
  simp only [impl_FlashOk.l1]
  rw [if_pos (by omega), if_pos (by omega), if_pos (by omega), rdIL_nat, iLeaf_eq, wsucc (n := ls.length) hi (by omega), w64 (x := (i : Int) - 1) (by omega) (by omega)]
  simp only [Option.bind_some]
  unfold stepB
  by_cases h : leafB (ls.getD i z142) = true
  · rw [if_pos h, h, Bool.true_and]
    by_cases h0 : i = 0
    · subst h0
      simp
    · obtain ⟨j, rfl⟩ : ∃ j, i = j + 1 := ⟨i - 1, by omega⟩
      rw [if_pos (by omega), if_pos (by omega), if_pos (by omega), show ((j + 1 : Nat) : Int) - 1 = (j : Int) by omega, rdIL_nat, show j + 1 - 1 = j by omega]
      generalize (ls.getD j z142).f0 = u
      generalize (ls.getD (j + 1) z142).f0 = v
      by_cases h1 : u = 0 <;> by_cases h2 : v = 0 <;> simp [h1, h2]
  · rw [if_neg h, Bool.eq_false_iff.mpr h, Bool.false_and]
    rfl
theorem sFlashOk_ev (f : List S71) (hn : f.length ≤ 1048576) (hk : ∀ x ∈ f, x.f2.length ≤ 1048576) : Ev (fun k => spec_FlashOk.f k f) (flashB f) := by
  refine ev_outer (L := fun k i => spec_FlashOk.l0 k i f) (n := f.length) (T := fun i => blockB (f.getD i z71)) (fun i r hi hr => ?_) (ev_some fun k => by simp only [spec_FlashOk.l0]; rw [if_neg (by omega), l01InF_eq]; rfl) f.length 0 (by omega)
  have hb := hk _ (getD_mem' (z := z71) hi)
  unfold blockB
  by_cases h4 : (f.getD i z71).f2.length = 4
  · rw [decide_eq_true h4, Bool.true_and]
    by_cases hw : 0 ≤ (f.getD i z71).f1 ∧ (f.getD i z71).f1 ≤ 1000000000
    · rw [decide_eq_true hw, Bool.true_and]
      have h := ev_scan (L := fun k j => spec_FlashOk.l1 k i j f (f.getD i z71).f0 (f.getD i z71).f1 (f.getD i z71).f2) (n := (f.getD i z71).f2.length) (T := stepB (f.getD i z71).f2) (fun k j hj => sFlash_step k i f _ _ _ j hj hb)
        (g := fun k => spec_FlashOk.l0 k ((i + 1 : Nat) : Int) f) (fun k => by simp only [spec_FlashOk.l1]; rw [if_neg (by omega), wsucc (n := f.length) hi (by omega)]) hr _ 0 (Nat.zero_add _)
      refine Ev.step (f := fun k => spec_FlashOk.j1 k i false f (f.getD i z71).f0 (f.getD i z71).f1 (f.getD i z71).f2) (fun k => ?_) (Ev.step (fun k => ?_) h)
      · simp only [spec_FlashOk.l0]
        rw [if_pos (by omega), if_pos (by omega), rdIB_nat, if_pos (by omega), l01InF_eq, decide_eq_true hw]
        rfl
      · simp only [spec_FlashOk.j1]
        rfl
    · rw [decide_eq_false hw, Bool.false_and, Bool.false_and]
      refine Ev.step (f := fun k => spec_FlashOk.j1 k i true f (f.getD i z71).f0 (f.getD i z71).f1 (f.getD i z71).f2) (fun k => ?_) (ev_some fun k => by simp [spec_FlashOk.j1])
      simp only [spec_FlashOk.l0]
      rw [if_pos (by omega), if_pos (by omega), rdIB_nat, if_pos (by omega), l01InF_eq, decide_eq_false hw]
      rfl
  · rw [decide_eq_false h4, Bool.false_and, Bool.false_and]
    refine Ev.step (f := fun k => spec_FlashOk.j1 k i true f (f.getD i z71).f0 (f.getD i z71).f1 (f.getD i z71).f2) (fun k => ?_) (ev_some fun k => by simp [spec_FlashOk.j1])
    simp only [spec_FlashOk.l0]
    rw [if_pos (by omega), if_pos (by omega), rdIB_nat, if_neg (by omega)]
theorem iFlashOk_ev (f : List S71) (hn : f.length ≤ 1048576) (hk : ∀ x ∈ f, x.f2.length ≤ 1048576) : Ev (fun k => impl_FlashOk.f k f) (flashB f) := by
  refine ev_outer (L := fun k i => impl_FlashOk.l0 k f (f.length : Int) i f) (n := f.length) (T := fun i => blockB (f.getD i z71)) (fun i r hi hr => ?_) (ev_some fun k => by simp only [impl_FlashOk.l0]; rw [if_neg (by omega), inF_eq]; rfl) f.length 0 (by omega)
  have hb := hk _ (getD_mem' (z := z71) hi)
  unfold blockB
  by_cases h4 : (f.getD i z71).f2.length = 4
  · rw [decide_eq_true h4, Bool.true_and]
    by_cases hw : 0 ≤ (f.getD i z71).f1 ∧ (f.getD i z71).f1 ≤ 1000000000
    · rw [decide_eq_true hw, Bool.true_and]
      have h := ev_scan (L := fun k j => impl_FlashOk.l1 k f (f.length : Int) i (f.getD i z71).f2 ((f.getD i z71).f2.length : Int) j f (f.getD i z71).f0 (f.getD i z71).f1 (f.getD i z71).f2) (n := (f.getD i z71).f2.length) (T := stepB (f.getD i z71).f2) (fun k j hj => iFlash_step k f _ _ f _ _ _ j hj hb)
        (g := fun k => impl_FlashOk.l0 k f (f.length : Int) ((i + 1 : Nat) : Int) f) (fun k => by simp only [impl_FlashOk.l1]; rw [if_neg (by omega), wsucc (n := f.length) hi (by omega)]) hr _ 0 (Nat.zero_add _)
      refine Ev.step (f := fun k => impl_FlashOk.j1 k f (f.length : Int) i false f (f.getD i z71).f0 (f.getD i z71).f1 (f.getD i z71).f2) (fun k => ?_) (Ev.step (fun k => ?_) h)
      · simp only [impl_FlashOk.l0]
        rw [if_pos (by omega), if_pos (by omega), if_pos (by omega), rdIB_nat, if_pos (by omega), inF_eq, decide_eq_true hw]
        rfl
      · simp only [impl_FlashOk.j1]
        rfl
    · rw [decide_eq_false hw, Bool.false_and, Bool.false_and]
      refine Ev.step (f := fun k => impl_FlashOk.j1 k f (f.length : Int) i true f (f.getD i z71).f0 (f.getD i z71).f1 (f.getD i z71).f2) (fun k => ?_) (ev_some fun k => by simp [impl_FlashOk.j1])
      simp only [impl_FlashOk.l0]
      rw [if_pos (by omega), if_pos (by omega), if_pos (by omega), rdIB_nat, if_pos (by omega), inF_eq, decide_eq_false hw]
      rfl
  · rw [decide_eq_false h4, Bool.false_and, Bool.false_and]
    refine Ev.step (f := fun k => impl_FlashOk.j1 k f (f.length : Int) i true f (f.getD i z71).f0 (f.getD i z71).f1 (f.getD i z71).f2) (fun k => ?_) (ev_some fun k => by simp [impl_FlashOk.j1])
    simp only [impl_FlashOk.l0]
    rw [if_pos (by omega), if_pos (by omega), if_pos (by omega), rdIB_nat, if_neg (by omega)]
end Go.Proofs.Ytdolplcbokioaaa.Pu

/- Where to write next on a flash, as plain functions; the program's and the reference's answer them. -/
namespace Go.Proofs.Ytdolplcbokioaaa.Pu
set_option linter.unusedVariables false
set_option linter.unusedSimpArgs false
open Go.RowKit Go.Proofs.Ytdolplcbokioaaa.PB Go.Proofs.YtdolplcbokioaaaW.PrintWords

def blankL (x : S142) : Bool := decide (x.f0 = 0)
def blanksN (ls : List S142) : Nat := (ls.filter blankL).length
def nextB (ls : List S142) : Int := let r := findI (fun i => blankL (ls.getD i z142)) 0 ls.length; if r = -1 then 4 else r
def openT (f : List S71) (i : Nat) : Bool := !(f.getD i z71).f0 && (decide (0 < blanksN (f.getD i z71).f2) && decide (blanksN (f.getD i z71).f2 < (f.getD i z71).f2.length))
def openB (f : List S71) : Int := findI (openT f) 0 f.length
def freeT (f : List S71) (i : Nat) : Bool := !(f.getD i z71).f0 && (f.getD i z71).f2.all blankL
def freeL (f : List S71) : List Int := (List.range' 0 f.length).foldl (fun s i => if freeT f i = true then s ++ [(i : Int)] else s) []
def wearAt (f : List S71) (i : Int) : Int := (f.getD i.toNat z71).f1
def bestOf (f : List S71) (b : Int) (l : List Int) : Int := l.foldl (fun b i => if wearAt f i < wearAt f b then i else b) b
def placeR (f : List S71) : Int × Int × Bool :=
  if flashB f = true then (if 0 ≤ openB f then (openB f, nextB (f.getD (openB f).toNat z71).f2, true) else match freeL f with | [] => (0, 0, false) | b :: l => (bestOf f b l, 0, true)) else (0, 0, false)

theorem blanksN_le (ls : List S142) : blanksN ls ≤ ls.length := List.length_filter_le _ _
theorem take_succ' {α : Type} {l : List α} {i : Nat} (z : α) (h : i < l.length) : l.take (i + 1) = l.take i ++ [l.getD i z] := by
  rw [List.take_succ_eq_append_getElem h, List.getD_eq_getElem?_getD, List.getElem?_eq_getElem h]; rfl
theorem filter_succ {α : Type} {l : List α} {i : Nat} (z : α) (p : α → Bool) (h : i < l.length) : ((l.take (i + 1)).filter p).length = ((l.take i).filter p).length + if p (l.getD i z) = true then 1 else 0 := by
  rw [take_succ' z h, List.filter_append, List.length_append]
  generalize l.getD i z = y
  by_cases hp : p y = true <;> simp [List.filter_cons, hp]
theorem iBlanks_ev (b : Bool) (n : Int) (ls : List S142) (hn : ls.length ≤ 1048576) : Ev (fun k => impl_blanks.f k b n ls) (blanksN ls : Int) := by
  have main : ∀ (d i : Nat), i + d = ls.length → Ev (fun k => impl_blanks.l0 k (((ls.take i).filter blankL).length : Int) ls (ls.length : Int) (i : Int)) (blanksN ls : Int) := by
    intro d
    induction d with
    | zero =>
      intro i hi
      refine ev_some fun k => ?_
      simp only [impl_blanks.l0]
      rw [if_neg (by omega), List.take_of_length_le (by omega)]
      rfl
    | succ d ih =>
      intro i hi
      refine Ev.step (fun k => ?_) (ih (i + 1) (by omega))
      have hle : ((ls.take i).filter blankL).length ≤ i := Nat.le_trans (List.length_filter_le _ _) (by rw [List.length_take]; omega)
      rw [filter_succ z142 blankL (by omega)]
      simp only [impl_blanks.l0]
      rw [if_pos (by omega), if_pos (by omega), if_pos (by omega), rdIL_nat, wsucc (n := ls.length) (by omega) (by omega), w64 (by omega) (by omega)]
      unfold blankL
      by_cases h : (ls.getD i z142).f0 = 0
      · rw [if_pos h, if_pos (decide_eq_true h)]; rfl
      · rw [if_neg h, if_neg (by rw [decide_eq_false h]; decide)]; rfl
  exact main ls.length 0 (by omega)
theorem iNext_ev (b : Bool) (n : Int) (ls : List S142) (hn : ls.length ≤ 1048576) : Ev (fun k => impl_NextBlank.f k b n ls) (nextB ls) := by
  have main : ∀ (d i : Nat), i + d = ls.length → Ev (fun k => impl_NextBlank.l0 k ls (ls.length : Int) (i : Int)) (if findI (fun i => blankL (ls.getD i z142)) i d = -1 then 4 else findI (fun i => blankL (ls.getD i z142)) i d) := by
    intro d
    induction d with
    | zero => intro i hi; exact ev_some fun k => by simp only [impl_NextBlank.l0]; rw [if_neg (by omega)]; rfl
    | succ d ih =>
      intro i hi
      unfold findI
      by_cases h : (ls.getD i z142).f0 = 0
      · rw [if_pos (show blankL (ls.getD i z142) = true from decide_eq_true h), if_neg (by omega)]
        refine ev_some fun k => ?_
        simp only [impl_NextBlank.l0]
        rw [if_pos (by omega), if_pos (by omega), if_pos (by omega), rdIL_nat, if_pos h]
      · rw [if_neg (show ¬ blankL (ls.getD i z142) = true by unfold blankL; rw [decide_eq_false h]; decide)]
        refine Ev.step (fun k => ?_) (ih (i + 1) (by omega))
        simp only [impl_NextBlank.l0]
        rw [if_pos (by omega), if_pos (by omega), if_pos (by omega), rdIL_nat, if_neg h, wsucc (n := ls.length) (by omega) (by omega)]
  exact main ls.length 0 (by omega)
theorem sNext_ev (b : Bool) (n : Int) (ls : List S142) (hn : ls.length ≤ 1048576) : Ev (fun k => spec_NextBlank.f k b n ls) (nextB ls) := by
  have main : ∀ (d i : Nat), i + d = ls.length → Ev (fun k => spec_NextBlank.l0 k (i : Int) b n ls) (if findI (fun i => blankL (ls.getD i z142)) i d = -1 then 4 else findI (fun i => blankL (ls.getD i z142)) i d) := by
    intro d
    induction d with
    | zero => intro i hi; exact ev_some fun k => by simp only [spec_NextBlank.l0]; rw [if_neg (by omega)]; rfl
    | succ d ih =>
      intro i hi
      unfold findI
      by_cases h : (ls.getD i z142).f0 = 0
      · rw [if_pos (show blankL (ls.getD i z142) = true from decide_eq_true h), if_neg (by omega)]
        refine ev_some fun k => ?_
        simp only [spec_NextBlank.l0]
        rw [if_pos (by omega), if_pos (by omega), rdIL_nat, if_pos h]
      · rw [if_neg (show ¬ blankL (ls.getD i z142) = true by unfold blankL; rw [decide_eq_false h]; decide)]
        refine Ev.step (fun k => ?_) (ih (i + 1) (by omega))
        simp only [spec_NextBlank.l0]
        rw [if_pos (by omega), if_pos (by omega), rdIL_nat, if_neg h, wsucc (n := ls.length) (by omega) (by omega)]
  exact main ls.length 0 (by omega)
theorem iOpen_ev (f : List S71) (hn : f.length ≤ 1048576) (hk : ∀ x ∈ f, x.f2.length ≤ 1048576) : Ev (fun k => impl_OpenBlock.f k f) (openB f) := by
  have st : ∀ i k, i < f.length → impl_OpenBlock.l0 (k + 1) f (f.length : Int) (i : Int) = (impl_blanks.f k (f.getD i z71).f0 (f.getD i z71).f1 (f.getD i z71).f2).bind fun t => if (f.getD i z71).f0 = true then impl_OpenBlock.l0 k f (f.length : Int) ((i + 1 : Nat) : Int) else if t > 0 then (if t < ((f.getD i z71).f2.length : Int) then some (i : Int) else impl_OpenBlock.l0 k f (f.length : Int) ((i + 1 : Nat) : Int)) else impl_OpenBlock.l0 k f (f.length : Int) ((i + 1 : Nat) : Int) := by
    intro i k hi
    simp only [impl_OpenBlock.l0]
    rw [if_pos (by omega), if_pos (by omega), if_pos (by omega), rdIB_nat, wsucc (n := f.length) hi (by omega)]
  refine ev_find (L := fun k i => impl_OpenBlock.l0 k f (f.length : Int) i) (n := f.length) (T := openT f) (fun i hi ht => ?_) (fun i hi ht r hr => ?_) (ev_some fun k => by simp only [impl_OpenBlock.l0]; rw [if_neg (by omega)]) f.length 0 (by omega)
  · refine Ev.step (fun k => st i k hi) (ev_bind (iBlanks_ev _ _ _ (hk _ (getD_mem' hi))) ?_)
    unfold openT at ht
    simp only [Bool.and_eq_true, Bool.not_eq_true', decide_eq_true_eq] at ht
    simp only [ht.1, Bool.false_eq_true, if_false, if_pos (show ((blanksN (f.getD i z71).f2 : Nat) : Int) > 0 by omega), if_pos (show ((blanksN (f.getD i z71).f2 : Nat) : Int) < ((f.getD i z71).f2.length : Int) by omega)]
    exact Ev.now _
  · refine Ev.step (fun k => st i k hi) (ev_bind (iBlanks_ev _ _ _ (hk _ (getD_mem' hi))) ?_)
    unfold openT at ht
    simp only [Bool.and_eq_false_iff, Bool.not_eq_false', decide_eq_false_iff_not] at ht
    by_cases hb : (f.getD i z71).f0 = true
    · simp only [if_pos hb]; exact hr
    · simp only [if_neg hb]
      by_cases h1 : ((blanksN (f.getD i z71).f2 : Nat) : Int) > 0
      · simp only [if_pos h1]
        by_cases h2 : ((blanksN (f.getD i z71).f2 : Nat) : Int) < ((f.getD i z71).f2.length : Int)
        · exfalso
          rcases ht with h3 | h3 | h3
          · exact hb h3
          · omega
          · omega
        · simp only [if_neg h2]; exact hr
      · simp only [if_neg h1]; exact hr
theorem filter_split {α : Type} (p : α → Bool) : ∀ l : List α, (l.filter p).length + (l.filter fun x => !p x).length = l.length
  | [] => rfl
  | x :: l => by
    have := filter_split p l
    by_cases h : p x = true <;> simp [List.filter_cons, h] <;> omega
theorem sOpen_ev (f : List S71) (hn : f.length ≤ 1048576) (hk : ∀ x ∈ f, x.f2.length ≤ 1048576) : Ev (fun k => spec_OpenBlock.f k f) (openB f) := by
  have inner : ∀ (i : Nat) (r : Int), i < f.length → (∀ (k : Nat), True) → Ev (fun k => if (f.getD i z71).f0 = true then spec_OpenBlock.l0 k ((i + 1 : Nat) : Int) f else if ((blanksN (f.getD i z71).f2 : Nat) : Int) > 0 then (if (((f.getD i z71).f2.length : Nat) : Int) - ((blanksN (f.getD i z71).f2 : Nat) : Int) > 0 then some (i : Int) else spec_OpenBlock.l0 k ((i + 1 : Nat) : Int) f) else spec_OpenBlock.l0 k ((i + 1 : Nat) : Int) f) r → Ev (fun k => spec_OpenBlock.l0 k (i : Int) f) r := by
    intro i r hi _ hr
    have hb := hk _ (getD_mem' (z := z71) hi)
    have main : ∀ (d j : Nat), j + d = (f.getD i z71).f2.length → Ev (fun k => spec_OpenBlock.l1 k (i : Int) ((((f.getD i z71).f2.take j).filter blankL).length : Int) ((((f.getD i z71).f2.take j).filter fun x => !blankL x).length : Int) (j : Int) f) r := by
      intro d
      induction d with
      | zero =>
        intro j hj
        refine Ev.step (fun k => ?_) hr
        have hs := filter_split blankL (f.getD i z71).f2
        simp only [spec_OpenBlock.l1]
        rw [if_pos (by omega), if_pos (by omega), rdIB_nat, if_neg (by omega), List.take_of_length_le (by omega), wsucc (n := f.length) hi (by omega)]
        have e : (((f.getD i z71).f2.filter fun x => !blankL x).length : Int) = (((f.getD i z71).f2.length : Nat) : Int) - ((blanksN (f.getD i z71).f2 : Nat) : Int) := by unfold blanksN; omega
        rw [e]
        rfl
      | succ d ih =>
        intro j hj
        refine Ev.step (fun k => ?_) (ih (j + 1) (by omega))
        have h1 : (((f.getD i z71).f2.take j).filter blankL).length ≤ j := Nat.le_trans (List.length_filter_le _ _) (by rw [List.length_take]; omega)
        have h2 : (((f.getD i z71).f2.take j).filter fun x => !blankL x).length ≤ j := Nat.le_trans (List.length_filter_le _ _) (by rw [List.length_take]; omega)
        rw [filter_succ z142 blankL (by omega), filter_succ z142 (fun x => !blankL x) (by omega)]
        simp only [spec_OpenBlock.l1]
        rw [if_pos (by omega), if_pos (by omega), rdIB_nat, if_pos (by omega), if_pos (by omega), rdIL_nat, wsucc (n := (f.getD i z71).f2.length) (by omega) (by omega), w64 (by omega) (by omega), w64 (by omega) (by omega)]
        by_cases h : ((f.getD i z71).f2.getD j z142).f0 = 0
        · have hb2 : blankL ((f.getD i z71).f2.getD j z142) = true := decide_eq_true h
          rw [if_pos h, hb2]; simp
        · have hb2 : blankL ((f.getD i z71).f2.getD j z142) = false := decide_eq_false h
          rw [if_neg h, hb2]; simp
    refine Ev.step (fun k => ?_) (main _ 0 (Nat.zero_add _))
    simp only [spec_OpenBlock.l0]
    rw [if_pos (by omega)]
    rfl
  refine ev_find (L := fun k i => spec_OpenBlock.l0 k i f) (n := f.length) (T := openT f) (fun i hi ht => inner i _ hi (fun _ => trivial) ?_) (fun i hi ht r hr => inner i _ hi (fun _ => trivial) ?_) (ev_some fun k => by simp only [spec_OpenBlock.l0]; rw [if_neg (by omega)]) f.length 0 (by omega)
  · unfold openT at ht
    simp only [Bool.and_eq_true, Bool.not_eq_true', decide_eq_true_eq] at ht
    simp only [ht.1, Bool.false_eq_true, if_false, if_pos (show ((blanksN (f.getD i z71).f2 : Nat) : Int) > 0 by omega), if_pos (show (((f.getD i z71).f2.length : Nat) : Int) - ((blanksN (f.getD i z71).f2 : Nat) : Int) > 0 by omega)]
    exact Ev.now _
  · unfold openT at ht
    simp only [Bool.and_eq_false_iff, Bool.not_eq_false', decide_eq_false_iff_not] at ht
    by_cases hb : (f.getD i z71).f0 = true
    · simp only [if_pos hb]; exact hr
    · simp only [if_neg hb]
      by_cases h1 : ((blanksN (f.getD i z71).f2 : Nat) : Int) > 0
      · simp only [if_pos h1]
        by_cases h2 : (((f.getD i z71).f2.length : Nat) : Int) - ((blanksN (f.getD i z71).f2 : Nat) : Int) > 0
        · exfalso
          rcases ht with h3 | h3 | h3
          · exact hb h3
          · omega
          · omega
        · simp only [if_neg h2]; exact hr
      · simp only [if_neg h1]; exact hr
end Go.Proofs.Ytdolplcbokioaaa.Pu

/- The free blocks of a flash and the next place on it; the program's and the reference's FreeBlocks and PlaceOf tell them. -/
namespace Go.Proofs.Ytdolplcbokioaaa.Pu
set_option linter.unusedVariables false
set_option linter.unusedSimpArgs false
open Go.RowKit Go.Proofs.Ytdolplcbokioaaa.PB Go.Proofs.YtdolplcbokioaaaW.PrintWords

theorem all_filter {α : Type} (p : α → Bool) : ∀ l : List α, l.all p = decide ((l.filter p).length = l.length)
  | [] => rfl
  | x :: l => by
    have ih := all_filter p l
    have hle := List.length_filter_le p l
    rw [List.all_cons, List.filter_cons, ih]
    by_cases h : p x = true
    · simp [h]
    · have h' : p x = false := Bool.eq_false_iff.mpr h
      simp only [h', Bool.false_and, Bool.false_eq_true, if_false, List.length_cons]
      exact (decide_eq_false (by omega)).symm
def freeF (f : List S71) (s : List Int) (i : Nat) : List Int := if freeT f i = true then s ++ [(i : Int)] else s
def FreeInv (f : List S71) (i : Nat) (s : List Int) : Prop := s.length ≤ i ∧ ∀ x ∈ s, 0 ≤ x ∧ x < (f.length : Int)
theorem freeInv_step {f : List S71} (s : List Int) (i : Nat) (hi : i < f.length) (h : FreeInv f i s) : FreeInv f (i + 1) (freeF f s i) := by
  unfold freeF
  by_cases ht : freeT f i = true
  · rw [if_pos ht]
    refine ⟨by rw [List.length_append]; have := h.1; simp; omega, fun x hx => ?_⟩
    rcases List.mem_append.1 hx with hx | hx
    · exact h.2 x hx
    · rw [List.mem_singleton.1 hx]; omega
  · rw [if_neg ht]; exact ⟨by have := h.1; omega, h.2⟩
theorem freeInv_fold {f : List S71} : ∀ (d i : Nat) (s : List Int), i + d = f.length → FreeInv f i s → FreeInv f f.length ((List.range' i d).foldl (freeF f) s)
  | 0, i, s, hi, h => by obtain rfl : i = f.length := by omega
                         exact h
  | d + 1, i, s, hi, h => by
    rw [List.range'_succ, List.foldl_cons]
    exact freeInv_fold d (i + 1) _ (by omega) (freeInv_step s i (by omega) h)
theorem freeL_eq (f : List S71) : freeL f = (List.range' 0 f.length).foldl (freeF f) [] := rfl
theorem freeL_inv (f : List S71) : FreeInv f f.length (freeL f) := by
  rw [freeL_eq]
  exact freeInv_fold f.length 0 [] (by omega) ⟨by simp, fun x hx => absurd hx (by simp)⟩
theorem iFree_ev (f : List S71) (hn : f.length ≤ 1048576) (hk : ∀ x ∈ f, x.f2.length ≤ 1048576) : Ev (fun k => impl_FreeBlocks.f k f) (freeL f) := by
  rw [freeL_eq]
  refine ev_fold (L := fun k s i => impl_FreeBlocks.l0 k s f (f.length : Int) i) (n := f.length) (F := freeF f) (fin := fun s => s) (FreeInv f) (fun s i hi hv r hr => ?_) (fun s i hi hv => freeInv_step s i hi hv)
    (fun s _ => ev_some fun k => by simp only [impl_FreeBlocks.l0]; rw [if_neg (by omega)]) f.length 0 [] (by omega) ⟨by simp, fun x hx => absurd hx (by simp)⟩
  have hsl : s.length ≤ i := hv.1
  unfold freeF freeT at hr
  rw [all_filter] at hr
  by_cases hb : (f.getD i z71).f0 = true
  · rw [hb] at hr
    simp only [Bool.not_true, Bool.false_and, Bool.false_eq_true, if_false] at hr
    refine Ev.step (fun k => ?_) hr
    simp only [impl_FreeBlocks.l0]
    rw [if_pos (by omega), if_pos (by omega), if_pos (by omega), rdIB_nat, if_pos hb, wsucc (n := f.length) hi (by omega)]
  · have hb' : (f.getD i z71).f0 = false := Bool.eq_false_iff.mpr hb
    rw [hb'] at hr
    simp only [Bool.not_false, Bool.true_and, decide_eq_true_eq] at hr
    refine Ev.step (f := fun k => (impl_blanks.f k (f.getD i z71).f0 (f.getD i z71).f1 (f.getD i z71).f2).bind fun t => if t = ((f.getD i z71).f2.length : Int) then impl_FreeBlocks.l0 k (s ++ [(i : Int)]) f (f.length : Int) ((i + 1 : Nat) : Int) else impl_FreeBlocks.l0 k s f (f.length : Int) ((i + 1 : Nat) : Int)) (fun k => ?_) (ev_bind (iBlanks_ev _ _ _ (hk _ (getD_mem' hi))) ?_)
    · simp only [impl_FreeBlocks.l0]
      rw [if_pos (by omega), if_pos (by omega), if_pos (by omega), rdIB_nat, if_neg hb, wsucc (n := f.length) hi (by omega), if_pos (by omega)]
    · by_cases h : blanksN (f.getD i z71).f2 = (f.getD i z71).f2.length
      · simp only [if_pos (show ((blanksN (f.getD i z71).f2 : Nat) : Int) = ((f.getD i z71).f2.length : Int) by omega)]
        rw [if_pos (show ((f.getD i z71).f2.filter blankL).length = (f.getD i z71).f2.length from h)] at hr
        exact hr
      · simp only [if_neg (show ¬ ((blanksN (f.getD i z71).f2 : Nat) : Int) = ((f.getD i z71).f2.length : Int) by omega)]
        rw [if_neg (show ¬ ((f.getD i z71).f2.filter blankL).length = (f.getD i z71).f2.length from h)] at hr
        exact hr
theorem sFree_ev (f : List S71) (hn : f.length ≤ 1048576) (hk : ∀ x ∈ f, x.f2.length ≤ 1048576) : Ev (fun k => spec_FreeBlocks.f k f) (freeL f) := by
  rw [freeL_eq]
  refine ev_fold (L := fun k s i => spec_FreeBlocks.l0 k s i f) (n := f.length) (F := freeF f) (fin := fun s => s) (FreeInv f) (fun s i hi hv r hr => ?_) (fun s i hi hv => freeInv_step s i hi hv)
    (fun s _ => ev_some fun k => by simp only [spec_FreeBlocks.l0]; rw [if_neg (by omega)]) f.length 0 [] (by omega) ⟨by simp, fun x hx => absurd hx (by simp)⟩
  have hsl : s.length ≤ i := hv.1
  have hb := hk _ (getD_mem' (z := z71) hi)
  have main : ∀ (d j : Nat) (b : Bool), j + d = (f.getD i z71).f2.length → (b && ((f.getD i z71).f2.drop j).all blankL) = freeT f i → Ev (fun k => spec_FreeBlocks.l1 k s (i : Int) b (j : Int) f) r := by
    intro d
    induction d with
    | zero =>
      intro j b hj hd
      rw [List.drop_eq_nil_of_le (by omega), List.all_nil, Bool.and_true] at hd
      subst hd
      refine Ev.step (fun k => ?_) hr
      simp only [spec_FreeBlocks.l1]
      rw [if_pos (by omega), if_pos (by omega), rdIB_nat, if_neg (by omega), wsucc (n := f.length) hi (by omega)]
      unfold freeF
      by_cases ht : freeT f i = true
      · rw [if_pos ht, if_pos ht, if_pos (by omega)]
      · rw [if_neg ht, if_neg ht]
    | succ d ih =>
      intro j b hj hd
      have hjl : j < (f.getD i z71).f2.length := by omega
      rw [List.drop_eq_getElem_cons hjl, List.all_cons] at hd
      have e : (f.getD i z71).f2.getD j z142 = (f.getD i z71).f2[j] := by rw [List.getD_eq_getElem?_getD, List.getElem?_eq_getElem hjl]; rfl
      cases b with
      | true =>
        rw [Bool.true_and] at hd
        refine Ev.step (fun k => ?_) (ih (j + 1) (blankL ((f.getD i z71).f2.getD j z142)) (by omega) (by rw [e]; exact hd))
        simp only [spec_FreeBlocks.l1]
        rw [if_pos (by omega), if_pos (by omega), rdIB_nat, if_pos (by omega), if_pos trivial, if_pos (by omega), rdIL_nat, wsucc (n := (f.getD i z71).f2.length) (by omega) (by omega)]
        unfold blankL
        rfl
      | false =>
        rw [Bool.false_and] at hd
        refine Ev.step (fun k => ?_) (ih (j + 1) false (by omega) (by rw [Bool.false_and]; exact hd))
        simp only [spec_FreeBlocks.l1]
        rw [if_pos (by omega), if_pos (by omega), rdIB_nat, if_pos (by omega), if_neg (by simp), wsucc (n := (f.getD i z71).f2.length) (by omega) (by omega)]
  refine Ev.step (fun k => ?_) (main _ 0 (!(f.getD i z71).f0) (Nat.zero_add _) rfl)
  simp only [spec_FreeBlocks.l0]
  rw [if_pos (by omega), if_pos (by omega), rdIB_nat]
  rfl
theorem wear_rd (f : List S71) (i : Int) : (rd_T71 f i).f1 = wearAt f i := rfl
/-- The best of what is left, from place i on. -/
theorem iBest_ev (f : List S71) (l : List Int) (hn : l.length ≤ 1048576) (hv : ∀ x ∈ l, 0 ≤ x ∧ x < (f.length : Int)) : ∀ (d i : Nat) (b : Int), i + d = l.length → 0 ≤ b → b < (f.length : Int) →
    Ev (fun k => impl_PlaceOf.l0 k b l (l.length : Int) (i : Int) f) (bestOf f b (l.drop i), 0, true) := by
  intro d
  induction d with
  | zero =>
    intro i b hi h0 h1
    refine ev_some fun k => ?_
    simp only [impl_PlaceOf.l0]
    rw [if_neg (by omega), if_neg (by omega), List.drop_eq_nil_of_le (by omega)]
    rfl
  | succ d ih =>
    intro i b hi h0 h1
    have hil : i < l.length := by omega
    have e : rd l (i : Int) = l[i] := by show l.getD i 0 = _; rw [List.getD_eq_getElem?_getD, List.getElem?_eq_getElem hil]; rfl
    have hx := hv l[i] (List.getElem_mem hil)
    have st : ∀ k, impl_PlaceOf.l0 (k + 1) b l (l.length : Int) (i : Int) f = impl_PlaceOf.l0 k (if wearAt f l[i] < wearAt f b then l[i] else b) l (l.length : Int) ((i + 1 : Nat) : Int) f := fun k => by
      simp only [impl_PlaceOf.l0]
      rw [if_pos (by omega), if_pos (by omega), if_pos (by omega), if_neg (by omega), e, if_pos hx.1, if_pos hx.2, if_pos h0, if_pos h1, wsucc (n := l.length) hil (by omega), wear_rd, wear_rd]
      by_cases h : wearAt f l[i] < wearAt f b
      · rw [if_pos h, if_pos h]
      · rw [if_neg h, if_neg h]
    refine Ev.step st ?_
    rw [List.drop_eq_getElem_cons hil]
    show Ev _ (bestOf f (if wearAt f l[i] < wearAt f b then l[i] else b) (l.drop (i + 1)), 0, true)
    by_cases h : wearAt f l[i] < wearAt f b
    · rw [if_pos h]; exact ih (i + 1) _ (by omega) hx.1 hx.2
    · rw [if_neg h]; exact ih (i + 1) _ (by omega) h0 h1
theorem sBest_ev (f : List S71) (l : List Int) (hn : l.length ≤ 1048576) (hv : ∀ x ∈ l, 0 ≤ x ∧ x < (f.length : Int)) : ∀ (d i : Nat) (b : Int), i + d = l.length → 0 ≤ b → b < (f.length : Int) →
    Ev (fun k => spec_PlaceOf.l0 k l b (i : Int) f) (bestOf f b (l.drop i), 0, true) := by
  intro d
  induction d with
  | zero =>
    intro i b hi h0 h1
    refine ev_some fun k => ?_
    simp only [spec_PlaceOf.l0]
    rw [if_neg (by omega), List.drop_eq_nil_of_le (by omega)]
    rfl
  | succ d ih =>
    intro i b hi h0 h1
    have hil : i < l.length := by omega
    have e : rd l (i : Int) = l[i] := by show l.getD i 0 = _; rw [List.getD_eq_getElem?_getD, List.getElem?_eq_getElem hil]; rfl
    have hx := hv l[i] (List.getElem_mem hil)
    have st : ∀ k, spec_PlaceOf.l0 (k + 1) l b (i : Int) f = spec_PlaceOf.l0 k l (if wearAt f l[i] < wearAt f b then l[i] else b) ((i + 1 : Nat) : Int) f := fun k => by
      simp only [spec_PlaceOf.l0]
      rw [if_pos (by omega), if_pos (by omega), e, if_pos hx.1, if_pos hx.2, if_pos h0, if_pos h1, wsucc (n := l.length) hil (by omega), wear_rd, wear_rd]
      by_cases h : wearAt f l[i] < wearAt f b
      · rw [if_pos h, if_pos h]
      · rw [if_neg h, if_neg h]
    refine Ev.step st ?_
    rw [List.drop_eq_getElem_cons hil]
    show Ev _ (bestOf f (if wearAt f l[i] < wearAt f b then l[i] else b) (l.drop (i + 1)), 0, true)
    by_cases h : wearAt f l[i] < wearAt f b
    · rw [if_pos h]; exact ih (i + 1) _ (by omega) hx.1 hx.2
    · rw [if_neg h]; exact ih (i + 1) _ (by omega) h0 h1
theorem open_cases (f : List S71) : openB f = -1 ∨ ∃ j : Nat, j < f.length ∧ openB f = (j : Int) := by
  rcases findI_range (T := openT f) f.length 0 with h | ⟨j, _, h2, h3, _⟩
  · exact .inl h
  · exact .inr ⟨j, by omega, h3⟩
theorem iPlace_ev (f : List S71) (hn : f.length ≤ 1048576) (hk : ∀ x ∈ f, x.f2.length ≤ 1048576) : Ev (fun k => impl_PlaceOf.f k f) (placeR f) := by
  unfold impl_PlaceOf.f placeR
  refine ev_bind (iFlashOk_ev f hn hk) ?_
  by_cases hf : flashB f = true
  · simp only [if_pos hf]
    refine ev_bind (iOpen_ev f hn hk) ?_
    rcases open_cases f with ho | ⟨j, hj, ho⟩
    · have hi := freeL_inv f
      simp only [ho, if_neg (show ¬ ((-1 : Int) ≥ 0) by omega), if_neg (show ¬ (0 ≤ (-1 : Int)) by omega)]
      refine ev_bind (iFree_ev f hn hk) ?_
      cases hl : freeL f with
      | nil => exact ev_some fun k => by simp [impl_PlaceOf.l0]
      | cons b l =>
        rw [hl] at hi
        have hb := hi.2 b (by simp)
        have hlen : l.length + 1 ≤ f.length := by have := hi.1; simpa using this
        refine Ev.step (fun k => ?_) (iBest_ev f (b :: l) (by simp only [List.length_cons]; omega) hi.2 l.length 1 b (by simp only [List.length_cons]; omega) hb.1 hb.2)
        simp only [impl_PlaceOf.l0]
        rw [if_pos (by simp only [List.length_cons]; omega), if_pos (by omega), if_pos (by simp only [List.length_cons]; omega), if_pos (by omega), w64 (by omega) (by omega)]
        rfl
    · simp only [ho, if_pos (show ((j : Int)) ≥ 0 by omega), if_pos (show 0 ≤ (j : Int) by omega), if_pos (show (j : Int) < (f.length : Int) by omega), rdIB_nat, Int.toNat_natCast]
      exact ev_bind (iNext_ev _ _ _ (hk _ (getD_mem' hj))) (Ev.now _)
  · simp only [if_neg hf]
    exact Ev.now _
theorem sPlace_ev (f : List S71) (hn : f.length ≤ 1048576) (hk : ∀ x ∈ f, x.f2.length ≤ 1048576) : Ev (fun k => spec_PlaceOf.f k f) (placeR f) := by
  unfold spec_PlaceOf.f placeR
  refine ev_bind (sFlashOk_ev f hn hk) ?_
  by_cases hf : flashB f = true
  · simp only [if_pos hf]
    refine ev_bind (sOpen_ev f hn hk) ?_
    rcases open_cases f with ho | ⟨j, hj, ho⟩
    · have hi := freeL_inv f
      simp only [ho, if_neg (show ¬ ((-1 : Int) ≥ 0) by omega), if_neg (show ¬ (0 ≤ (-1 : Int)) by omega)]
      refine ev_bind (sFree_ev f hn hk) ?_
      cases hl : freeL f with
      | nil => simp only [List.length_nil, if_pos (show ((0 : Nat) : Int) = 0 from rfl)]; exact Ev.now _
      | cons b l =>
        rw [hl] at hi
        have hb := hi.2 b (by simp)
        have hlen : l.length + 1 ≤ f.length := by have := hi.1; simpa using this
        simp only [if_neg (show ¬ (((b :: l).length : Nat) : Int) = 0 by simp only [List.length_cons]; omega), if_pos (show (0 : Int) < (((b :: l).length : Nat) : Int) by simp only [List.length_cons]; omega)]
        exact sBest_ev f (b :: l) (by simp only [List.length_cons]; omega) hi.2 l.length 1 b (by simp only [List.length_cons]; omega) hb.1 hb.2
    · simp only [ho, if_pos (show ((j : Int)) ≥ 0 by omega), if_pos (show 0 ≤ (j : Int) by omega), if_pos (show (j : Int) < (f.length : Int) by omega), rdIB_nat, Int.toNat_natCast]
      exact ev_bind (sNext_ev _ _ _ (hk _ (getD_mem' hj))) (Ev.now _)
  · simp only [if_neg hf]
    exact Ev.now _
end Go.Proofs.Ytdolplcbokioaaa.Pu

/- FnExactPlaceOf: the program's and the reference's next place on a flash are one. -/
namespace Go.Proofs.Ytdolplcbokioaaa.Pure
set_option linter.unusedVariables false
set_option linter.unusedSimpArgs false
open Go.RowKit Go.Proofs.Ytdolplcbokioaaa.PB Go.Proofs.YtdolplcbokioaaaW.PrintWords Go.Proofs.Ytdolplcbokioaaa.Pu

theorem FnExactPlaceOf : ∀ (l0_0 : List S191), (l0_0.length ≤ maxLen ∧ ∀ x_l0_0 ∈ l0_0, (True ∧ (Lit.int .i64 x_l0_0.f1).wf = true ∧ (x_l0_0.f2.length ≤ maxLen ∧ ∀ x_x_l0_0f2 ∈ x_l0_0.f2, ((Lit.int .i64 x_x_l0_0f2.f0).wf = true ∧ x_x_l0_0f2.f1.size ≤ maxLen)))) → ∃ k, laws_FnExactPlaceOf.f k l0_0 = some true := by
  intro l ⟨hl, hx⟩
  refine Ev.rounds (g := fun k => laws_FnExactPlaceOf.f k l) ?_
  obtain ⟨r, hr, hq⟩ := flash_start hl (fun x h => ⟨(hx x h).2.2.1, fun y hy => ((hx x h).2.2.2 y hy).2⟩)
  unfold laws_FnExactPlaceOf.f
  refine ev_bind hr ?_
  by_cases h : r < 0
  · simp only [if_pos h]; exact Ev.now _
  · simp only [if_neg h]
    obtain ⟨hto, heq, hn, hm⟩ := hq (by omega)
    have hk : ∀ x ∈ toFl l, x.f2.length ≤ 1048576 := fun x hx => (hm x hx).1
    refine ev_bind hto (ev_bind (sPlace_ev _ hn hk) (ev_bind hto (ev_bind (iPlace_ev _ hn hk) ?_)))
    simp only [if_true, bne_self_eq_false]
    refine Ev.step (f := fun k => (laws_toFlash.f k l).bind fun t => (laws_eqFlash.f k (toFl l) t).bind fun b => if b = true then some true else some false) (fun k => by simp [laws_FnExactPlaceOf.j0]) ?_
    exact ev_bind hto (ev_bind heq (by simp only [if_true]; exact Ev.now _))
end Go.Proofs.Ytdolplcbokioaaa.Pure

/- FnExactPlaceOf: whatever the input, the law returns true, and its arguments read as they did. The row, out of the law's own walk and the pure statement. -/
namespace Go.Proofs.Ytdolplcbokioaaa.fnExactPlaceOf
open Go.ChangeShapes Go.WideShapes Go.ChangeAt Go.RowKit Go.Proofs.Ytdolplcbokioaaa.Open Go.Proofs.YtdolplcbokioaaaW.PrintWords Go.Proofs.Ytdolplcbokioaaa.PB
open Go.ChangeMaps (open_string shut_string)
theorem own : ownKnob Try.prog.godebug = none := by kernel_rfl
theorem laidOut : laidOutB Try.prog = true := by kernel_rfl
set_option maxRecDepth 100000 in
theorem o213 : Opn Try.prog 213 k213 (fun x => ((Lit.int .i64 x.f0).wf = true ∧ x.f1.size ≤ maxLen)) := opn_struct (d := (Kd.pair (Kd.int .i64) Kd.string)) (wf := fun (y : Int × ByteArray) => ((Lit.int .i64 y.1).wf = true ∧ y.2.size ≤ maxLen)) (fun x : S213 => (x.f0, x.f1)) (fun y => (⟨y.1, y.2⟩ : S213)) (fun _ => rfl) Try.underlying213 (by kernel_rfl) (opnF_cons rfl (by kernel_rfl) (opn_int Try.underlying3) (opnF_one rfl (by kernel_rfl) (opn_string Try.underlying9)))
set_option maxRecDepth 100000 in
theorem o191 : Opn Try.prog 191 k191 (fun x => (True ∧ (Lit.int .i64 x.f1).wf = true ∧ (x.f2.length ≤ maxLen ∧ ∀ x_xf2 ∈ x.f2, ((Lit.int .i64 x_xf2.f0).wf = true ∧ x_xf2.f1.size ≤ maxLen)))) := opn_struct (d := (Kd.pair Kd.bool (Kd.pair (Kd.int .i64) (Kd.slice 213 k213)))) (wf := fun (y : Bool × Int × (List S213)) => (True ∧ ((Lit.int .i64 y.2.1).wf = true ∧ (y.2.2.length ≤ maxLen ∧ ∀ x_y22 ∈ y.2.2, ((Lit.int .i64 x_y22.f0).wf = true ∧ x_y22.f1.size ≤ maxLen))))) (fun x : S191 => (x.f0, x.f1, x.f2)) (fun y => (⟨y.1, y.2.1, y.2.2⟩ : S191)) (fun _ => rfl) Try.underlying191 (by kernel_rfl) (opnF_cons rfl (by kernel_rfl) (opn_bool Try.underlying4) (opnF_cons rfl (by kernel_rfl) (opn_int Try.underlying3) (opnF_one rfl (by kernel_rfl) (opn_slice Try.underlying189 (by kernel_rfl) o213))))
set_option maxRecDepth 100000 in
theorem p108 : Opn Try.prog 108 (Kd.slice 191 k191) (fun (y : (List S191)) => (y.length ≤ maxLen ∧ ∀ x_y ∈ y, (True ∧ (Lit.int .i64 x_y.f1).wf = true ∧ (x_y.f2.length ≤ maxLen ∧ ∀ x_x_yf2 ∈ x_y.f2, ((Lit.int .i64 x_x_yf2.f0).wf = true ∧ x_x_yf2.f1.size ≤ maxLen))))) := opn_tuple Try.underlying108 (by kernel_rfl) (opnF_one rfl (by kernel_rfl) (opn_slice Try.underlying106 (by kernel_rfl) o191))
set_option maxRecDepth 100000 in
set_option maxHeartbeats 4000000 in
theorem lifted (os : Os) (started : os.Started) (H : Type) (enc : TypeId × Value → H) :
    ReturnsInHanded {} Try.checked os 12 .any (Rows.fnExactPlaceOfSpec.pre6 enc Try.prog Try.f12 Rows.fnExactPlaceOfRow.domain false) (Rows.fnExactPlaceOfSpec.post enc Try.prog Try.f12 false true false false) := by
  refine returnsInHanded_of_change_sized (C := Try.checked) own started (by kernel_rfl) Try.func12
    (ChangeSpec.witness6 (enc := enc) (C := Try.checked) false ⟨#[], #[.agg #[.slice none 0 0]], []⟩ 8 (by kernel_rfl) (by kernel_rfl) (by kernel_rfl) (by kernel_rfl)) ?_
  intro W base args ds gs before hval0 hW hcnd hsz0 _
  have hval : ∀ (j : Nat) t v, Try.f12.params[j]? = some t → args[j]? = some v → Value.okWide Try.prog W .any base t v := hval0
  have hW' := hW
  obtain ⟨p, q, hA0, hV, rfl, hfz, hnd⟩ := hW
  have hA : DataW.TrodAll enc Try.prog W 0 (fun _ => true) true Try.f12.params.toList args.toList ds p := hA0
  rw [Try.params12] at hA hval
  obtain ⟨v0, vs0, d0, ds0, p0, q0, hargs, rfl, rfl, h0, r0⟩ := trodAll_cons hA
  obtain ⟨rfl, rfl, rfl⟩ := trodAll_nil r0
  obtain rfl : args = #[v0] := by cases args; simp_all
  obtain ⟨rfl, rfl⟩ := trodVars_none hV
  have k0 := h0
  have lt0 : ∀ x ∈ p0, x.block < W.heap.size := by obtain ⟨m, hm⟩ := k0; exact DataW.trod_lt m _ _ _ hm
  obtain ⟨fu0, hf0⟩ := h0
  obtain ⟨y0, K0, Y0⟩ := p108 H enc W 0 (fun _ => true) true fu0 _ _ hf0
  obtain ⟨cs0, rfl, sz0⟩ := okWide_struct Try.underlying108 (hval 0 108 v0 rfl rfl)
  obtain ⟨Ac0, Cc0, Ec0, Lc0, Gc0⟩ := K0
  have E0 : cs0 = #[.slice Ac0 y0.length Cc0] := by
    apply Array.toList_inj.1
    have z : cs0.toList = _ := Ec0
    exact z
  subst E0
  obtain ⟨k, hp⟩ := Pure.FnExactPlaceOf y0 Y0
  clear hA0 hval0 hsz0
  refine (laws_FnExactPlaceOf.calls k Ac0 Cc0 y0 true ⟨rfl⟩ W Gc0 Lc0 hp).mono fun e W' ⟨he, bel0⟩ => ?_
  have bel : Below W.heap.size W W' := bel0
  subst he
  exact ⟨_, rfl, _, _, _, [], _, [], hW', trodAll_mk1 (shut_bool Try.underlying4 _), (trodAll_cons_mk (Below.trod laidOut (by kernel_rfl) (of_decide_eq_true (by kernel_rfl)) k0 bel lt0) trodAll_mk0), rfl, bel.frame _, fun h => by cases h⟩
theorem over : Rows.fnExactPlaceOfRow.holds Try.pinned (OpenSpec.ofChange Rows.fnExactPlaceOfSpec) :=
  OpenClaim.holds_of_wide 12 Try.f12 rfl rfl rfl rfl rfl rfl rfl ⟨rfl, rfl, rfl, rfl, rfl⟩ rfl rfl rfl rfl rfl (by kernel_rfl) Try.func12 (by kernel_rfl)
    (of_decide_eq_true (by kernel_rfl)) (by unfold Func.isWrapper; first | (rw [if_pos (by decide +kernel)]; kernel_rfl) | (rw [if_neg (by decide +kernel)]; exact ⟨rfl, rfl⟩))
    (fun os started H enc _ => lifted os started H enc)
theorem proved : Rows.FnExactPlaceOfSaid := over
#print axioms proved
end Go.Proofs.Ytdolplcbokioaaa.fnExactPlaceOf
namespace Go.Proofs.Ytdolplcbokioaaa
/-- The row, under a short name, for the claim. -/
theorem fnExactPlaceOf_holds : Rows.FnExactPlaceOfSaid := fnExactPlaceOf.proved
end Go.Proofs.Ytdolplcbokioaaa
