/- FnPlacesOf: functions of the translation as Lean functions with what their calls come to, plain lemmas on them, and, at the end, the row. Parts of one proof, merged by a program of this session; each part's own sentence stands at its head. -/
import Derived.Test.YtcpgpchdplpfiaaRows
import Derived.WalkKit
import Derived.ProofKit
import Derived.OpenShut
import Derived.ShutString
import Derived.ChangeOld
import Derived.Below
import Derived.SizedLaws
import Derived.Test.YtcpgpchdplpfiaaMFnPlacesOfd
/- Functions of the translation as plain Lean functions, and for each that its call comes to just what its Lean function answers; its conditions stand in each theorem. Written by a program of this session. -/
namespace Go.Proofs.Ytcpgpchdplpfiaa.PF
open Go.RowKit Go.Proofs.YtcpgpchdplpfiaaW.PrintWords Go.Proofs.YtcpgpchdplpfiaaW.PrintLast Go.Proofs.YtcpgpchdplpfiaaW.PrintMore
attribute [local go_sem] max2_int min2_int max_two min_two max_three min_three max_four min_four   -- for this text's walks alone
set_option linter.unusedVariables false
set_option linter.unusedSimpArgs false

/-! ### laws_FnPlacesOf: function 5 -/
def laws_FnPlacesOf.l0 : Nat → Int → Int → Bool → Int → List Int → Int → List (S49) → Option (Bool)
  | 0, _, _, _, _, _, _, _ => none
  | k + 1, x4, x5, x6, x7, x8, x9, x305000 => if x9 < (x8.length : Int) then (if 0 ≤ x9 then (if 0 ≤ (rd x8 x9) then (if (rd x8 x9) < (x305000.length : Int) then (if (rd_T49 x305000 (rd x8 x9)).f0 = true then (some false) else ((spec_NextBlank.f k ((rd_T49 x305000 (rd x8 x9)).f0) ((rd_T49 x305000 (rd x8 x9)).f1) ((rd_T49 x305000 (rd x8 x9)).f2)).bind fun t316 => (if t316 = 0 then (laws_FnPlacesOf.l0 k x4 x5 x6 x7 x8 (wrap64 (x9 + 1)) x305000) else (some false)))) else (none)) else (none)) else (none)) else (if x6 = true then ((spec_Program.f k x305000 x4 x5 (⟨#[120]⟩ : ByteArray)).bind fun bt318 => (if bt318.2 = true then ((impl_RoomOf.f k bt318.1).bind fun t323 => (if t323 = (wrap64 (x7 - 1)) then ((impl_OpenBlock.f k x305000).bind fun t324 => (if t324 = (-1) then ((laws_in.f k x8 x4).bind fun t325 => (if t325 = true then (some true) else ((impl_OpenBlock.f k x305000).bind fun t326 => (some (t326 == x4))))) else ((impl_OpenBlock.f k x305000).bind fun t327 => (some (t327 == x4))))) else (some false))) else (some false))) else ((impl_OpenBlock.f k x305000).bind fun t317 => (if t317 = (-1) then (some ((x8.length : Int) == 0)) else (some false))))
def laws_FnPlacesOf.f (k : Nat) (l0 : List Int) : Option (Bool) := (laws_big.f l0).bind fun t300 => (if t300 = true then (some true) else ((spec_DrawRightFlash.f k l0).bind fun t301 => ((impl_PlaceOf.f k t301).bind fun bt305 => ((impl_RoomOf.f k t301).bind fun t308 => (if (bt305.2.2 != (decide (t308 > 0))) = true then (some false) else ((impl_FreeBlocks.f k t301).bind fun t309 => (laws_FnPlacesOf.l0 k bt305.1 bt305.2.1 bt305.2.2 t308 t309 0 t301)))))))
theorem laws_FnPlacesOf.mono_l : ∀ k, (∀ y0 y1 y2 y3 y4 y5 y6, LeO (laws_FnPlacesOf.l0 k y0 y1 y2 y3 y4 y5 y6) (laws_FnPlacesOf.l0 (k + 1) y0 y1 y2 y3 y4 y5 y6))
  | 0 => fun _ _ _ _ _ _ _ r h => by simp [laws_FnPlacesOf.l0] at h
  | k + 1 => by
    have ih0 := laws_FnPlacesOf.mono_l k
    · intro y0 y1 y2 y3 y4 y5 y6
      unfold laws_FnPlacesOf.l0
      repeat' first
      | (with_reducible exact ih0 _ _ _ _ _ _ _)
      | (with_reducible exact impl_FreeBlocks.mono _ _)
      | (with_reducible exact impl_OpenBlock.mono _ _)
      | (with_reducible exact impl_PlaceOf.mono _ _)
      | (with_reducible exact impl_RoomOf.mono _ _)
      | (with_reducible exact laws_in.mono _ _ _)
      | (with_reducible exact spec_DrawRightFlash.mono _ _)
      | (with_reducible exact spec_NextBlank.mono _ _ _ _)
      | (with_reducible exact spec_Program.mono _ _ _ _ _)
      | (with_reducible exact LeO.refl _)
      | (with_reducible exact LeO.none _)
      | (with_reducible refine LeO.ite ?_ ?_)
      | (with_reducible refine LeO.bind ?_ (fun _ => ?_))
      | exact ih0 _ _ _ _ _ _ _
      | exact impl_FreeBlocks.mono _ _
      | exact impl_OpenBlock.mono _ _
      | exact impl_PlaceOf.mono _ _
      | exact impl_RoomOf.mono _ _
      | exact laws_in.mono _ _ _
      | exact spec_DrawRightFlash.mono _ _
      | exact spec_NextBlank.mono _ _ _ _
      | exact spec_Program.mono _ _ _ _ _
      | exact LeO.none _
      | refine LeO.ite ?_ ?_
      | refine LeO.bind ?_ (fun _ => ?_)
theorem laws_FnPlacesOf.mono : ∀ a0 k, LeO (laws_FnPlacesOf.f k a0) (laws_FnPlacesOf.f (k + 1) a0) := by
  intro a0 k
  have ih0 := laws_FnPlacesOf.mono_l k
  unfold laws_FnPlacesOf.f
  repeat' first
      | (with_reducible exact ih0 _ _ _ _ _ _ _)
      | (with_reducible exact impl_FreeBlocks.mono _ _)
      | (with_reducible exact impl_OpenBlock.mono _ _)
      | (with_reducible exact impl_PlaceOf.mono _ _)
      | (with_reducible exact impl_RoomOf.mono _ _)
      | (with_reducible exact laws_in.mono _ _ _)
      | (with_reducible exact spec_DrawRightFlash.mono _ _)
      | (with_reducible exact spec_NextBlank.mono _ _ _ _)
      | (with_reducible exact spec_Program.mono _ _ _ _ _)
      | (with_reducible exact LeO.refl _)
      | (with_reducible exact LeO.none _)
      | (with_reducible refine LeO.ite ?_ ?_)
      | (with_reducible refine LeO.bind ?_ (fun _ => ?_))
      | exact ih0 _ _ _ _ _ _ _
      | exact impl_FreeBlocks.mono _ _
      | exact impl_OpenBlock.mono _ _
      | exact impl_PlaceOf.mono _ _
      | exact impl_RoomOf.mono _ _
      | exact laws_in.mono _ _ _
      | exact spec_DrawRightFlash.mono _ _
      | exact spec_NextBlank.mono _ _ _ _
      | exact spec_Program.mono _ _ _ _ _
      | exact LeO.none _
      | refine LeO.ite ?_ ?_
      | refine LeO.bind ?_ (fun _ => ?_)
def laws_FnPlacesOf.T12 : Bool × List (List Nat × List Nat) := (true, [([], []), ([0], [0]), ([], []), ([], []), ([2, 3], [2, 3]), ([4], [4]), ([1, 5], [1, 5]), ([6], [6]), ([7], [7]), ([8], [8]), ([9], [9]), ([10, 9], [9, 10]), ([9], [9]), ([9], [9]), ([12, 13, 9], [9, 12, 13]), ([14, 9], [9, 14]), ([11, 15, 9], [9, 11, 15]), ([16, 9], [9, 16]), ([17, 9, 9], [9, 17]), ([18, 9], [9, 18]), ([9, 19], [9, 19])])
def laws_FnPlacesOf.B12 : List Nat := [0, 1, 0, 0, 12, 28, 63, 127, 255, 511, 1023, 2047, 1023, 1023, 13311, 29695, 65535, 131071, 262143, 524287, 1048575]
theorem laws_FnPlacesOf.tab12 : rtab .any (opsOf Try.f5 12) = laws_FnPlacesOf.T12 := by kernel_rfl
theorem laws_FnPlacesOf.bits12 : waitsOk laws_FnPlacesOf.T12.2 laws_FnPlacesOf.B12 = true := by kernel_rfl
set_option maxHeartbeats 8000000 in
set_option maxRecDepth 100000 in
theorem laws_FnPlacesOf.calls (k : Nat) (A0 : Option Addr) (c0 : Nat) (l0 : List Int) (r : Bool) (hT : Aside0 (r = true)) (w : World) (hr0 : Kd.C (Kd.int .u8) w A0 l0.length l0) (hc0 : l0.length ≤ c0) (h : laws_FnPlacesOf.f k l0 = some r) :
    Calls Try.prog 5 #[.slice A0 l0.length c0] w fun e w' => e = .returned (.bool r) ∧ Below w.heap.size w w' := by
  have hu40 := Try.underlying40
  have hu49 := Try.underlying49
  have HR0 := Aside0.mk hr0
  have HC0 := Aside0.mk hc0
  clear hr0 hc0
  have HB := Aside0.mk (Below.refl w.heap.size w)
  have H : ((laws_big.f l0).bind fun t300 => (if t300 = true then (some true) else ((spec_DrawRightFlash.f k l0).bind fun t301 => ((impl_PlaceOf.f k t301).bind fun bt305 => ((impl_RoomOf.f k t301).bind fun t308 => (if (bt305.2.2 != (decide (t308 > 0))) = true then (some false) else ((impl_FreeBlocks.f k t301).bind fun t309 => (laws_FnPlacesOf.l0 k bt305.1 bt305.2.1 bt305.2.2 t308 t309 0 t301)))))))) = some r := h
  clear h
  replace H := Option.bind_eq_some_iff.mp H
  obtain ⟨t300, A20, H⟩ := H
  replace H : (if t300 = true then (some true) else ((spec_DrawRightFlash.f k l0).bind fun t301 => ((impl_PlaceOf.f k t301).bind fun bt305 => ((impl_RoomOf.f k t301).bind fun t308 => (if (bt305.2.2 != (decide (t308 > 0))) = true then (some false) else ((impl_FreeBlocks.f k t301).bind fun t309 => (laws_FnPlacesOf.l0 k bt305.1 bt305.2.1 bt305.2.2 t308 t309 0 t301))))))) = some r := H
  have A2 := Aside0.mk A20
  clear A20
  by_cases c3 : t300 = true
  · subst c3
    have H1 : (some true) = some r := by rw [if_pos rfl] at H; exact H
    clear H
    have H := H1
    clear H1
    obtain rfl := Option.some.inj H
    go_enter Try.func5, Try.ntmps5
    go_wp2_with (first | ((with_reducible refine gate_callee (f := 15) rfl ?_); refine goesL_ (some 13) rfl rfl Try.func15 (by kernel_rfl) rfl #[.slice A0 l0.length c0] rfl (by (try simp only [List.map_toArray, List.map_cons, List.map_nil]); first | done | rfl | (simp only [List.length_drop, List.length_take]; rfl)) ?_; (with_reducible refine (laws_big.calls _ _ l0 true _ ?side1 ?side2 A2.out).mono ?_); (case side1 => repeat (first | exact HR0.out | (with_reducible refine Kd.C_alloc ?_ _) | (with_reducible refine Kd.C_drewN ?_ _) | (with_reducible refine Kd.C_drew ?_))); (case side2 => exact HC0.out); rintro e w' ⟨rfl, ⟨nd, rfl⟩⟩; refine ⟨_, rfl, ?_⟩))
    go_ret
    exact ⟨by first | rfl | (simp [errW_none, errW_some] <;> rfl) | (simp [*, errW_none, errW_some] <;> rfl), by repeat (first | (with_reducible first | exact HB.out | apply below_alloc | apply pw_below_drewN | apply below_drew1) | exact HB.out)⟩
  · replace c3 := Bool.eq_false_iff.mpr c3
    subst c3
    have H1 : ((spec_DrawRightFlash.f k l0).bind fun t301 => ((impl_PlaceOf.f k t301).bind fun bt305 => ((impl_RoomOf.f k t301).bind fun t308 => (if (bt305.2.2 != (decide (t308 > 0))) = true then (some false) else ((impl_FreeBlocks.f k t301).bind fun t309 => (laws_FnPlacesOf.l0 k bt305.1 bt305.2.1 bt305.2.2 t308 t309 0 t301)))))) = some r := by rw [if_neg (show ¬ (false = true) by decide)] at H; exact H
    clear H
    have H := H1
    clear H1
    replace H := Option.bind_eq_some_iff.mp H
    obtain ⟨t301, A40, H⟩ := H
    replace H : ((impl_PlaceOf.f k t301).bind fun bt305 => ((impl_RoomOf.f k t301).bind fun t308 => (if (bt305.2.2 != (decide (t308 > 0))) = true then (some false) else ((impl_FreeBlocks.f k t301).bind fun t309 => (laws_FnPlacesOf.l0 k bt305.1 bt305.2.1 bt305.2.2 t308 t309 0 t301))))) = some r := H
    have A4 := Aside0.mk A40
    clear A40
    replace H := Option.bind_eq_some_iff.mp H
    obtain ⟨⟨t305, t306, t307⟩, A50, H⟩ := H
    replace H : ((impl_RoomOf.f k t301).bind fun t308 => (if (t307 != (decide (t308 > 0))) = true then (some false) else ((impl_FreeBlocks.f k t301).bind fun t309 => (laws_FnPlacesOf.l0 k t305 t306 t307 t308 t309 0 t301)))) = some r := H
    have A5 := Aside0.mk A50
    clear A50
    replace H := Option.bind_eq_some_iff.mp H
    obtain ⟨t308, A60, H⟩ := H
    replace H : (if (t307 != (decide (t308 > 0))) = true then (some false) else ((impl_FreeBlocks.f k t301).bind fun t309 => (laws_FnPlacesOf.l0 k t305 t306 t307 t308 t309 0 t301))) = some r := H
    have A6 := Aside0.mk A60
    clear A60
    by_cases c7 : (t307 != (decide (t308 > 0))) = true
    · rw [if_pos c7] at H
      have c7b0 : (t307 != (decide (t308 > 0))) = true := c7
      (try (have c7b1 : decide (t307 = (decide (t308 > 0))) = false := by simpa using c7))
      (try (have c7b2 : (t307 == (decide (t308 > 0))) = false := by simpa using c7))
      (try (have c7b3 : ¬ (t307 = (decide (t308 > 0))) := by simpa using c7))
      clear c7
      exact absurd ((Option.some.inj H).trans hT.out) (by decide)
    · rw [if_neg c7] at H
      have c7b0 : (t307 != (decide (t308 > 0))) = false := by simpa using c7
      (try (have c7b1 : decide (t307 = (decide (t308 > 0))) = true := by simpa using c7))
      (try (have c7b2 : (t307 == (decide (t308 > 0))) = true := by simpa using c7))
      clear c7
      replace H := Option.bind_eq_some_iff.mp H
      obtain ⟨t309, A80, H⟩ := H
      replace H : (laws_FnPlacesOf.l0 k t305 t306 t307 t308 t309 0 t301) = some r := H
      have A8 := Aside0.mk A80
      clear A80
      have H' := Aside0.mk H
      clear H
      go_enter Try.func5, Try.ntmps5
      go_wp2_with (first | ((with_reducible refine gate_callee (f := 15) rfl ?_); refine goesL_ (some 13) rfl rfl Try.func15 (by kernel_rfl) rfl #[.slice A0 l0.length c0] rfl (by (try simp only [List.map_toArray, List.map_cons, List.map_nil]); first | done | rfl | (simp only [List.length_drop, List.length_take]; rfl)) ?_; (with_reducible refine (laws_big.calls _ _ l0 false _ ?side1 ?side2 A2.out).mono ?_); (case side1 => repeat (first | exact HR0.out | (with_reducible refine Kd.C_alloc ?_ _) | (with_reducible refine Kd.C_drewN ?_ _) | (with_reducible refine Kd.C_drew ?_))); (case side2 => exact HC0.out); rintro e w' ⟨rfl, ⟨nd, rfl⟩⟩; refine ⟨_, rfl, ?_⟩) | ((with_reducible refine gate_callee (f := 23) rfl ?_); refine goesL_ (some 15) rfl rfl Try.func23 (by kernel_rfl) rfl #[.slice A0 l0.length c0] rfl (by (try simp only [List.map_toArray, List.map_cons, List.map_nil]); first | done | rfl | (simp only [List.length_drop, List.length_take]; rfl)) ?_; (with_reducible refine (spec_DrawRightFlash.calls k _ _ l0 t301 _ ?side1 ?side2 A4.out).mono ?_); (case side1 => repeat (first | exact HR0.out | (with_reducible refine Kd.C_alloc ?_ _) | (with_reducible refine Kd.C_drewN ?_ _) | (with_reducible refine Kd.C_drew ?_))); (case side2 => exact HC0.out); rintro e w9 ⟨v302, rfl, ho0, hb⟩; refine ⟨_, rfl, ?_⟩; have n0_ := Aside0.mk (Kd.S_lower ho0 (below_size (by repeat (first | (with_reducible first | exact HB.out | apply below_alloc | apply pw_below_drewN | apply below_drew1) | exact HB.out)))); have n1_ := Aside0.mk (below_step (by repeat (first | (with_reducible first | exact HB.out | apply below_alloc | apply pw_below_drewN | apply below_drew1) | exact HB.out)) hb); clear HB; have HO303 := n0_; have HB := n1_; clear n0_ n1_; (try clear hb); (try clear hb2); (try clear hk); (try clear hi); (try clear ho0)) | ((with_reducible refine gate_dst (N := 3) rfl ?_); (try (refine gate_guard (by rfl) ?_; dsimp only)); refine box_event ?hg (N := 3) ?hd (cs := #[.slice none 0 0]) (t := 40) ?hr ?_; (case hd => rfl); (case hg => rfl); (case hr => first | (go_simp; done) | (go_simp; rfl)); intro gb304 hg w10 hbox hb; have n0_ := Aside0.mk (Kd.S_below (by (with_reducible repeat (first | apply Kd.S_alloc | apply Kd.S_drewN | apply Kd.S_drew)); exact HO303.out) hb); have n1_ := Aside0.mk (below_step (by repeat (first | (with_reducible first | exact HB.out | apply below_alloc | apply pw_below_drewN | apply below_drew1) | exact HB.out)) hb); have n2_ := Aside0.mk (hbox); have n3_ := Aside0.mk ((by rw [hg]; exact (below_size (by repeat (first | (with_reducible first | exact HB.out | apply below_alloc | apply pw_below_drewN | apply below_drew1) | exact HB.out))) : w.heap.size ≤ gb304)); have n4_ := Aside0.mk ((by rw [hg]; exact (below_size (by repeat (first | (with_reducible first | exact HB.out | apply below_alloc | apply pw_below_drewN | apply below_drew1) | exact HB.out))) : w.heap.size ≤ gb304)); clear HO303; clear HB; have HO303 := n0_; have HB := n1_; have BK304 := n2_; have GW304 := n3_; have GE304 := n4_; clear n0_ n1_ n2_ n3_ n4_; clear hb hbox hg; obtain ⟨Ao11, co11, eo11⟩ := Kd.S_slice HO303.out; subst eo11; have hcz12_0 : w10.cell? ⟨gb304, 0, none⟩ = some (.slice none 0 0) := (blk_cell BK304.out 0).trans rfl; have hfz12_0 := blk_frozen BK304.out 0) | ((with_reducible refine gate_callee (f := 24) rfl ?_); refine goesL_ (some 18) rfl rfl Try.func24 (by kernel_rfl) rfl #[.agg #[.slice Ao11 t301.length co11]] rfl (by (try simp only [List.map_toArray, List.map_cons, List.map_nil]); first | done | rfl | (simp only [List.length_drop, List.length_take]; rfl)) ?_; (with_reducible refine (impl_PlaceOf.calls k _ _ t301 t305 t306 t307 _ ?side1 ?side2 A5.out).mono ?_); (case side1 => refine (Kd.S_reads' (e := 49) (base := w.heap.size) (ok := fun k_ => True) (n := t301.length) (c := co11) ?_).2.2; exact (by (with_reducible repeat (first | apply Kd.S_alloc | apply Kd.S_drewN | apply Kd.S_drew)); exact (Kd.S_mono (Kd.S_far (p := ⟨gb304, 0, none⟩) (Kd.S_types HO303.out BK304.out (by decide)) (fun _ hk => hk.2) (.slice Ao11 t301.length co11)) (fun _ h_ => h_.1)))); (case side2 => exact (Kd.S_reads' HO303.out).2.1); rintro e w13 ⟨rfl, hb⟩; refine ⟨_, rfl, ?_⟩; have n0_ := Aside0.mk (Kd.S_below (by (with_reducible repeat (first | apply Kd.S_alloc | apply Kd.S_drewN | apply Kd.S_drew)); exact (Kd.S_mono (Kd.S_far (p := ⟨gb304, 0, none⟩) (Kd.S_types HO303.out BK304.out (by decide)) (fun _ hk => hk.2) (.slice Ao11 t301.length co11)) (fun _ h_ => h_.1))) hb); have n1_ := Aside0.mk (blk_below (g := gb304) (o := .cells #[.slice Ao11 t301.length co11] 40 (0, 0)) (by (with_reducible repeat (first | refine blk_drewN ?_ _ | refine blk_drew ?_ | refine blk_alloc ?_ _)); refine blk_put (cs := #[.slice none 0 0]) ?_ 0 _ rfl; (with_reducible repeat (first | refine blk_drewN ?_ _ | refine blk_drew ?_ | refine blk_alloc ?_ _)); exact BK304.out) hb); have n2_ := Aside0.mk (below_step (by repeat (first | (with_reducible first | exact HB.out | apply below_alloc | apply pw_below_drewN | apply below_drew1 | refine below_set ?_ GE304.out) | exact HB.out)) hb); clear HO303; clear BK304; clear HB; have HO303 := n0_; have BK304 := n1_; have HB := n2_; clear n0_ n1_ n2_; (try clear hb); (try clear hb2); (try clear hk); (try clear hi); have hcz14_0 : w13.cell? ⟨gb304, 0, none⟩ = some (.slice Ao11 t301.length co11) := (blk_cell BK304.out 0).trans rfl; have hfz14_0 := blk_frozen BK304.out 0) | ((with_reducible refine gate_callee (f := 25) rfl ?_); refine goesL_ (some 23) rfl rfl Try.func25 (by kernel_rfl) rfl #[.agg #[.slice Ao11 t301.length co11]] rfl (by (try simp only [List.map_toArray, List.map_cons, List.map_nil]); first | done | rfl | (simp only [List.length_drop, List.length_take]; rfl)) ?_; (with_reducible refine (impl_RoomOf.calls k _ _ t301 t308 _ ?side1 ?side2 A6.out).mono ?_); (case side1 => repeat (first | exact (Kd.S_reads' HO303.out).2.2 | (with_reducible refine Kd.C_alloc ?_ _) | (with_reducible refine Kd.C_drewN ?_ _) | (with_reducible refine Kd.C_drew ?_))); (case side2 => exact (Kd.S_reads' HO303.out).2.1); rintro e w15 ⟨rfl, hb⟩; refine ⟨_, rfl, ?_⟩; have n0_ := Aside0.mk (Kd.S_below (by (with_reducible repeat (first | apply Kd.S_alloc | apply Kd.S_drewN | apply Kd.S_drew)); exact HO303.out) hb); have n1_ := Aside0.mk (blk_below (g := gb304) (o := .cells #[.slice Ao11 t301.length co11] 40 (0, 0)) (by (with_reducible repeat (first | refine blk_drewN ?_ _ | refine blk_drew ?_ | refine blk_alloc ?_ _)); exact BK304.out) hb); have n2_ := Aside0.mk (below_step (by repeat (first | (with_reducible first | exact HB.out | apply below_alloc | apply pw_below_drewN | apply below_drew1 | refine below_set ?_ GE304.out) | exact HB.out)) hb); clear HO303; clear BK304; clear HB; have HO303 := n0_; have BK304 := n1_; have HB := n2_; clear n0_ n1_ n2_; (try clear hb); (try clear hb2); (try clear hk); (try clear hi); have hcz16_0 : w15.cell? ⟨gb304, 0, none⟩ = some (.slice Ao11 t301.length co11) := (blk_cell BK304.out 0).trans rfl; have hfz16_0 := blk_frozen BK304.out 0) | ((with_reducible refine gate_callee (f := 26) rfl ?_); refine goesL_ (some 29) rfl rfl Try.func26 (by kernel_rfl) rfl #[.agg #[.slice Ao11 t301.length co11]] rfl (by (try simp only [List.map_toArray, List.map_cons, List.map_nil]); first | done | rfl | (simp only [List.length_drop, List.length_take]; rfl)) ?_; (with_reducible refine (impl_FreeBlocks.calls k _ _ t301 t309 _ ?side1 ?side2 A8.out).mono ?_); (case side1 => repeat (first | exact (Kd.S_reads' HO303.out).2.2 | (with_reducible refine Kd.C_alloc ?_ _) | (with_reducible refine Kd.C_drewN ?_ _) | (with_reducible refine Kd.C_drew ?_))); (case side2 => exact (Kd.S_reads' HO303.out).2.1); rintro e w17 ⟨v310, rfl, ho0, hb⟩; refine ⟨_, rfl, ?_⟩; have n0_ := Aside0.mk (Kd.S_below (by (with_reducible repeat (first | apply Kd.S_alloc | apply Kd.S_drewN | apply Kd.S_drew)); exact HO303.out) hb); have n1_ := Aside0.mk (Kd.R_lower ho0 (below_size (by repeat (first | (with_reducible first | exact HB.out | apply below_alloc | apply pw_below_drewN | apply below_drew1 | refine below_set ?_ GE304.out) | exact HB.out)))); have n2_ := Aside0.mk (blk_below (g := gb304) (o := .cells #[.slice Ao11 t301.length co11] 40 (0, 0)) (by (with_reducible repeat (first | refine blk_drewN ?_ _ | refine blk_drew ?_ | refine blk_alloc ?_ _)); exact BK304.out) hb); have n3_ := Aside0.mk (below_step (by repeat (first | (with_reducible first | exact HB.out | apply below_alloc | apply pw_below_drewN | apply below_drew1 | refine below_set ?_ GE304.out) | exact HB.out)) hb); clear HO303; clear BK304; clear HB; have HO303 := n0_; have HO311 := n1_; have BK304 := n2_; have HB := n3_; clear n0_ n1_ n2_ n3_; (try clear hb); (try clear hb2); (try clear hk); (try clear hi); (try clear ho0)))
      go_loopg [9] k (fun kq v9 w' => ∃ (x9_1 : Int), v9 = .int .i64 x9_1 ∧ Aside0 (laws_FnPlacesOf.l0 kq t305 t306 t307 t308 t309 x9_1 t301 = some r) ∧ Aside0 (kq ≤ k) ∧ Aside0 (Kd.R (Kd.int .i64) 3 w' w.heap.size (fun _ => True) v310 t309) ∧ Aside0 (Kd.S k49 49 w' w.heap.size (fun _ => True) (.slice Ao11 t301.length co11) t301) ∧ Aside0 (w'.heap[gb304]? = some (.cells #[(.slice Ao11 t301.length co11)] 40 (0, 0))) ∧ Aside0 (Below w.heap.size w w'))
      case atStart => exact ⟨(0), (by first | rfl | (simp; done) | (simp [*]; done)), H', ⟨Nat.le_refl _⟩, ⟨by (with_reducible repeat (first | apply Kd.R_alloc | apply Kd.R_drewN | apply Kd.R_drew)); exact HO311.out⟩, ⟨by (with_reducible repeat (first | apply Kd.S_alloc | apply Kd.S_drewN | apply Kd.S_drew)); exact HO303.out⟩, ⟨by (with_reducible repeat (first | refine blk_drewN ?_ _ | refine blk_drew ?_ | refine blk_alloc ?_ _)); exact BK304.out⟩, ⟨by repeat (first | (with_reducible first | exact HB.out | apply below_alloc | apply pw_below_drewN | apply below_drew1 | refine below_set ?_ GE304.out) | exact HB.out)⟩⟩
      case round =>
        clear H'
        try clear c1
        try clear c2
        try clear p2
        try clear c3
        try clear c5
        try clear c7
        try clear c7b0
        try clear c7b1
        try clear c7b2
        try clear c15
        try clear hcz12_0
        try clear hcz14_0
        try clear hcz16_0
        try clear hfz12_0
        try clear hfz14_0
        try clear hfz16_0
        obtain ⟨x9_1, rfl, HA, HK1, HO_8, HO_305000, BK304, HB⟩ := hrel
        cases gk with
        | zero => exact absurd HA.out (by simp [laws_FnPlacesOf.l0])
        | succ k1 =>
          have H := HA.out
          clear HA
          simp only [laws_FnPlacesOf.l0] at H
          by_cases c18 : x9_1 < (t309.length : Int)
          · rw [if_pos c18] at H
            have c18b0 : decide (x9_1 < (t309.length : Int)) = true := decide_eq_true c18
            clear c18
            by_cases c19 : 0 ≤ x9_1
            · rw [if_pos c19] at H
              have c19b0 : decide (0 ≤ x9_1) = true := decide_eq_true c19
              clear c19
              by_cases c20 : 0 ≤ (rd t309 x9_1)
              · rw [if_pos c20] at H
                have c20b0 : decide (0 ≤ (rd t309 x9_1)) = true := decide_eq_true c20
                clear c20
                by_cases c21 : (rd t309 x9_1) < (t301.length : Int)
                · rw [if_pos c21] at H
                  have c21b0 : decide ((rd t309 x9_1) < (t301.length : Int)) = true := decide_eq_true c21
                  clear c21
                  obtain ⟨bq22, hbq22⟩ : ∃ b_ : Bool, b_ = ((rd_T49 t301 (rd t309 x9_1)).f0) := ⟨_, rfl⟩
                  replace H : (if bq22 = true then (some false) else ((spec_NextBlank.f k1 (bq22) ((rd_T49 t301 (rd t309 x9_1)).f1) ((rd_T49 t301 (rd t309 x9_1)).f2)).bind fun t316 => (if t316 = 0 then (laws_FnPlacesOf.l0 k1 t305 t306 t307 t308 t309 (wrap64 (x9_1 + 1)) t301) else (some false)))) = some r := by rw [← hbq22] at H; exact H
                  have Nbq22 := Aside0.mk hbq22
                  clear hbq22
                  by_cases c23 : bq22 = true
                  · subst c23
                    have H1 : (some false) = some r := by rw [if_pos rfl] at H; exact H
                    clear H
                    have H := H1
                    clear H1
                    exact absurd ((Option.some.inj H).trans hT.out) (by decide)
                  · replace c23 := Bool.eq_false_iff.mpr c23
                    subst c23
                    have H1 : ((spec_NextBlank.f k1 (false) ((rd_T49 t301 (rd t309 x9_1)).f1) ((rd_T49 t301 (rd t309 x9_1)).f2)).bind fun t316 => (if t316 = 0 then (laws_FnPlacesOf.l0 k1 t305 t306 t307 t308 t309 (wrap64 (x9_1 + 1)) t301) else (some false))) = some r := by rw [if_neg (show ¬ (false = true) by decide)] at H; exact H
                    clear H
                    have H := H1
                    clear H1
                    replace H := Option.bind_eq_some_iff.mp H
                    obtain ⟨t316, A240, H⟩ := H
                    replace H : (if t316 = 0 then (laws_FnPlacesOf.l0 k1 t305 t306 t307 t308 t309 (wrap64 (x9_1 + 1)) t301) else (some false)) = some r := H
                    have A24 := Aside0.mk A240
                    clear A240
                    by_cases c25 : t316 = 0
                    · rw [if_pos c25] at H
                      have c25b0 : (t316 == 0) = true := beq_iff_eq.mpr c25
                      have c25b1 : (t316 != 0) = false := bne_eq_false_iff_eq.mpr c25
                      clear c25
                      have H' := Aside0.mk H
                      clear H
                      obtain ⟨Ao26, co26, eo26⟩ := Kd.R_slice HO_8.out
                      subst eo26
                      try go_wp2
                      have n0_ := Aside0.mk (Kd.R_drew HO_8.out)
                      have n1_ := Aside0.mk (Kd.S_drew HO_305000.out)
                      have n2_ := Aside0.mk (blk_drew BK304.out)
                      have n3_ := Aside0.mk (below_drew1 HB.out)
                      clear HO_8
                      clear HO_305000
                      clear BK304
                      clear HB
                      have HO_8 := n0_
                      have HO_305000 := n1_
                      have BK304 := n2_
                      have HB := n3_
                      clear n0_ n1_ n2_ n3_
                      have p312 : 0 ≤ (x9_1 : Int) := of_decide_eq_true (by first | (with_reducible assumption) | assumption)
                      have q312 : x9_1 < (t309.length : Int) := of_decide_eq_true (by first | (with_reducible assumption) | assumption)
                      obtain ⟨ad312, e312, hx312_0⟩ := Kd.at_int (Kd.R_reads' HO_8.out).2.2 x9_1 p312 q312
                      cases e312
                      replace p312 := eq_true p312
                      replace q312 := eq_true q312
                      have p313 : 0 ≤ ((rd t309 x9_1) : Int) := of_decide_eq_true (by first | (with_reducible assumption) | assumption)
                      have q313 : (rd t309 x9_1) < (t301.length : Int) := of_decide_eq_true (by first | (with_reducible assumption) | assumption)
                      obtain ⟨ad313, A313_2, c313_2, e313, hx313_0, hx313_1, hx313_2, hl313_2, hi313_2⟩ := at_T49 (Kd.S_reads' HO_305000.out).2.2 (rd t309 x9_1) p313 q313
                      (try rw [← Nbq22.out] at hx313_0)
                      cases e313
                      obtain ⟨ce313, hce313, hMe313, hcc313⟩ := Kd.S_get HO_305000.out z49 (rd t309 x9_1) p313 (by first | exact q313 | exact of_decide_eq_true (by first | (with_reducible assumption) | assumption) | (have e_ := (Kd.S_reads' HO_305000.out).1; omega))
                      obtain ⟨ve313_2, rfl, ge313_2⟩ := k49_openM hMe313
                      have hv313_2 := hcc313 2 _ rfl
                      rw [add_field _ _ 2 (by omega)] at hv313_2
                      replace hv313_2 := Option.some.inj (hv313_2.symm.trans hx313_2)
                      rw [hv313_2] at ge313_2
                      have HL313_2 := Aside0.mk (show Kd.R k103 103 _ _ _ _ ((rd_T49 t301 (rd t309 x9_1)).f2) from ge313_2)
                      clear hv313_2 ge313_2
                      clear hcc313 hce313
                      have HR313_2 := Aside0.mk hi313_2
                      have HC313_2 := Aside0.mk hl313_2
                      clear hi313_2 hl313_2
                      replace p313 := eq_true p313
                      replace q313 := eq_true q313
                      have p314 : 0 ≤ (x9_1 : Int) := of_decide_eq_true (by first | (with_reducible assumption) | assumption)
                      have q314 : x9_1 < (t309.length : Int) := of_decide_eq_true (by first | (with_reducible assumption) | assumption)
                      obtain ⟨ad314, e314, hx314_0⟩ := Kd.at_int (Kd.R_reads' HO_8.out).2.2 x9_1 p314 q314
                      obtain rfl : ad312 = ad314 := (by injection e314)
                      replace p314 := eq_true p314
                      replace q314 := eq_true q314
                      have p315 : 0 ≤ ((rd t309 x9_1) : Int) := of_decide_eq_true (by first | (with_reducible assumption) | assumption)
                      have q315 : (rd t309 x9_1) < (t301.length : Int) := of_decide_eq_true (by first | (with_reducible assumption) | assumption)
                      obtain ⟨ad315, A315_2, c315_2, e315, hx315_0, hx315_1, hx315_2, hl315_2, hi315_2⟩ := at_T49 (Kd.S_reads' HO_305000.out).2.2 (rd t309 x9_1) p315 q315
                      (try rw [← Nbq22.out] at hx315_0)
                      obtain rfl : ad313 = ad315 := (by injection e315)
                      obtain ⟨ce315, hce315, hMe315, hcc315⟩ := Kd.S_get HO_305000.out z49 (rd t309 x9_1) p315 (by first | exact q315 | exact of_decide_eq_true (by first | (with_reducible assumption) | assumption) | (have e_ := (Kd.S_reads' HO_305000.out).1; omega))
                      obtain ⟨ve315_2, rfl, ge315_2⟩ := k49_openM hMe315
                      have hv315_2 := hcc315 2 _ rfl
                      rw [add_field _ _ 2 (by omega)] at hv315_2
                      replace hv315_2 := Option.some.inj (hv315_2.symm.trans hx315_2)
                      rw [hv315_2] at ge315_2
                      have HL315_2 := Aside0.mk (show Kd.R k103 103 _ _ _ _ ((rd_T49 t301 (rd t309 x9_1)).f2) from ge315_2)
                      clear hv315_2 ge315_2
                      clear hcc315 hce315
                      have HR315_2 := Aside0.mk hi315_2
                      have HC315_2 := Aside0.mk hl315_2
                      clear hi315_2 hl315_2
                      replace p315 := eq_true p315
                      replace q315 := eq_true q315
                      have ea_ := Option.some.inj (hx313_2.symm.trans hx315_2)
                      injection ea_ with ea_ en_ ec_
                      subst ea_
                      subst ec_
                      clear en_
                      refine start_ (n := 21) (S := fun w' => w'.cell? ⟨gb304, 0, none⟩ = some (.slice (some ad313) t301.length co11) ∧ w'.cell? (ad312.add (x9_1).toNat) = some (.int .i64 (rd t309 x9_1)) ∧ w'.cell? (ad313.add (((rd t309 x9_1)).toNat * 3)) = some (.bool false) ∧ w'.cell? ⟨(ad313.add (((rd t309 x9_1)).toNat * 3)).block, (ad313.add (((rd t309 x9_1)).toNat * 3)).off + 1, none⟩ = some (.int .i64 ((rd_T49 t301 (rd t309 x9_1)).f1)) ∧ w'.cell? ⟨(ad313.add (((rd t309 x9_1)).toNat * 3)).block, (ad313.add (((rd t309 x9_1)).toNat * 3)).off + 2, none⟩ = some (.slice A313_2 ((rd_T49 t301 (rd t309 x9_1)).f2).length c313_2) ∧ w'.cell? (ad312.add (x9_1).toNat) = some (.int .i64 (rd t309 x9_1)) ∧ w'.cell? (ad313.add (((rd t309 x9_1)).toNat * 3)) = some (.bool (false)) ∧ w'.cell? ⟨(ad313.add (((rd t309 x9_1)).toNat * 3)).block, (ad313.add (((rd t309 x9_1)).toNat * 3)).off + 1, none⟩ = some (.int .i64 ((rd_T49 t301 (rd t309 x9_1)).f1)) ∧ w'.cell? ⟨(ad313.add (((rd t309 x9_1)).toNat * 3)).block, (ad313.add (((rd t309 x9_1)).toNat * 3)).off + 2, none⟩ = some (.slice A313_2 ((rd_T49 t301 (rd t309 x9_1)).f2).length c313_2)) (ds := []) #[false, false, false, false, false, false, false, false, false, false, false, false, false, false, false, false, false, false, false, false, false] (by kernel_rfl) rfl rfl ⟨(blk_cell BK304.out 0).trans rfl, hx312_0, hx313_0, hx313_1, hx313_2, hx314_0, hx315_0, hx315_1, hx315_2⟩ (fun hHeld => ?_); refine with_tabW laws_FnPlacesOf.tab12 laws_FnPlacesOf.bits12 (fun HT_ HW_ => ?_)
                      generalize wr.drew = w27 at HO_8 HO_305000 BK304 HB HL313_2 HL315_2 HR313_2 HR315_2 hx312_0 hx313_0 hx313_1 hx313_2 hx314_0 hx315_0 hx315_1 hx315_2 hHeld ⊢
                      refine pure_ (i := 0) (N := some 36) (v := ?_) (a' := ?_) #[true, false, false, false, false, false, false, false, false, false, false, false, false, false, false, false, false, false, false, false, false] rfl rfl (any_of HT_.out (by kernel_rfl)) (fun _ _ _ h => h) (Or.inl ⟨by rfl, ?_⟩) ?_ ?_
                      rotate_left
                      · intro w'
                        go_simp
                        with_reducible rfl
                      rotate_left
                      · simp only [Act.put, List.setIfInBounds_toArray, List.set_cons_zero, List.set_cons_succ, i64_w, i32_w]
                        rfl
                      refine pure_ (i := 2) (N := some 38) (v := ?_) (a' := ?_) #[true, false, true, false, false, false, false, false, false, false, false, false, false, false, false, false, false, false, false, false, false] rfl rfl (any_of HT_.out (by kernel_rfl)) (fun _ _ _ h => h) (Or.inl ⟨by rfl, ?_⟩) ?_ ?_
                      rotate_left
                      · intro w'
                        go_simp
                        with_reducible rfl
                      rotate_left
                      · simp only [Act.put, List.setIfInBounds_toArray, List.set_cons_zero, List.set_cons_succ, i64_w, i32_w]
                        rfl
                      refine pure_ (i := 3) (N := some 39) (v := ?_) (a' := ?_) #[true, false, true, true, false, false, false, false, false, false, false, false, false, false, false, false, false, false, false, false, false] rfl rfl (any_of HT_.out (by kernel_rfl)) (fun _ _ _ h => h) (Or.inl ⟨by rfl, ?_⟩) ?_ ?_
                      rotate_left
                      · intro w'
                        go_simp
                        with_reducible rfl
                      rotate_left
                      · simp only [Act.put, List.setIfInBounds_toArray, List.set_cons_zero, List.set_cons_succ, i64_w, i32_w]
                        rfl
                      refine pure_ (i := 4) (N := some 40) (v := ?_) (a' := ?_) #[true, false, true, true, true, false, false, false, false, false, false, false, false, false, false, false, false, false, false, false, false] rfl rfl (any_of HT_.out (by kernel_rfl)) (fun _ _ _ h => h) (Or.inl ⟨by rfl, ?_⟩) ?_ ?_
                      rotate_left
                      · intro w'
                        go_simp
                        with_reducible rfl
                      rotate_left
                      · simp only [Act.put, List.setIfInBounds_toArray, List.set_cons_zero, List.set_cons_succ, i64_w, i32_w]
                        rfl
                      refine take_ (i := 1) (N := some 37) (v := ?_) (a' := ?_) #[true, true, true, true, true, false, false, false, false, false, false, false, false, false, false, false, false, false, false, false, false] rfl rfl (take_ofW HT_.out HW_.out (by kernel_rfl)) (fun _ _ _ h => h) (Or.inl ⟨by rfl, ?_⟩) hHeld ?_ ?_
                      rotate_left
                      · rintro w' ⟨s0, s1, s2, s3, s4, s5, s6, s7, s8⟩
                        go_simp
                        with_reducible rfl
                      rotate_left
                      · simp only [Act.put, List.setIfInBounds_toArray, List.set_cons_zero, List.set_cons_succ, i64_w, i32_w]
                        rfl
                      refine take_ (i := 5) (N := some 41) (v := ?_) (a' := ?_) #[true, true, true, true, true, true, false, false, false, false, false, false, false, false, false, false, false, false, false, false, false] rfl rfl (take_ofW HT_.out HW_.out (by kernel_rfl)) (fun _ _ _ h => h) (Or.inl ⟨by rfl, ?_⟩) hHeld ?_ ?_
                      rotate_left
                      · rintro w' ⟨s0, s1, s2, s3, s4, s5, s6, s7, s8⟩
                        go_simp
                        with_reducible rfl
                      rotate_left
                      · simp only [Act.put, List.setIfInBounds_toArray, List.set_cons_zero, List.set_cons_succ, i64_w, i32_w]
                        rfl
                      refine pure_ (i := 6) (N := some 42) (v := ?_) (a' := ?_) #[true, true, true, true, true, true, true, false, false, false, false, false, false, false, false, false, false, false, false, false, false] rfl rfl (any_of HT_.out (by kernel_rfl)) (fun _ _ _ h => h) (Or.inl ⟨by rfl, ?_⟩) ?_ ?_
                      rotate_left
                      · intro w'
                        go_simp
                        with_reducible rfl
                      rotate_left
                      · simp only [Act.put, List.setIfInBounds_toArray, List.set_cons_zero, List.set_cons_succ, i64_w, i32_w]
                        rfl
                      refine pure_ (i := 7) (N := some 43) (v := ?_) (a' := ?_) #[true, true, true, true, true, true, true, true, false, false, false, false, false, false, false, false, false, false, false, false, false] rfl rfl (any_of HT_.out (by kernel_rfl)) (fun _ _ _ h => h) (Or.inl ⟨by rfl, ?_⟩) ?_ ?_
                      rotate_left
                      · intro w'
                        go_simp
                        with_reducible rfl
                      rotate_left
                      · simp only [Act.put, List.setIfInBounds_toArray, List.set_cons_zero, List.set_cons_succ, i64_w, i32_w]
                        rfl
                      refine take_ (i := 8) (N := some 44) (v := ?_) (a' := ?_) #[true, true, true, true, true, true, true, true, true, false, false, false, false, false, false, false, false, false, false, false, false] rfl rfl (take_ofW HT_.out HW_.out (by kernel_rfl)) (fun _ _ _ h => h) (Or.inl ⟨by rfl, ?_⟩) hHeld ?_ ?_
                      rotate_left
                      · rintro w' ⟨s0, s1, s2, s3, s4, s5, s6, s7, s8⟩
                        go_simp
                        with_reducible rfl
                      rotate_left
                      · simp only [Act.put, List.setIfInBounds_toArray, List.set_cons_zero, List.set_cons_succ, i64_w, i32_w]
                        rfl
                      refine pure_ (i := 9) (N := some 45) (v := ?_) (a' := ?_) #[true, true, true, true, true, true, true, true, true, true, false, false, false, false, false, false, false, false, false, false, false] rfl rfl (any_of HT_.out (by kernel_rfl)) (fun _ _ _ h => h) (Or.inl ⟨by rfl, ?_⟩) ?_ ?_
                      rotate_left
                      · intro w'
                        go_simp
                        with_reducible rfl
                      rotate_left
                      · simp only [Act.put, List.setIfInBounds_toArray, List.set_cons_zero, List.set_cons_succ, i64_w, i32_w]
                        rfl
                      refine pure_ (i := 10) (N := some 46) (v := ?_) (a' := ?_) #[true, true, true, true, true, true, true, true, true, true, true, false, false, false, false, false, false, false, false, false, false] rfl rfl (any_of HT_.out (by kernel_rfl)) (fun _ _ _ h => h) (Or.inl ⟨by rfl, ?_⟩) ?_ ?_
                      rotate_left
                      · intro w'
                        go_simp
                        with_reducible rfl
                      rotate_left
                      · simp only [Act.put, List.setIfInBounds_toArray, List.set_cons_zero, List.set_cons_succ, i64_w, i32_w]
                        rfl
                      refine pure_ (i := 12) (N := some 48) (v := ?_) (a' := ?_) #[true, true, true, true, true, true, true, true, true, true, true, false, true, false, false, false, false, false, false, false, false] rfl rfl (any_of HT_.out (by kernel_rfl)) (fun _ _ _ h => h) (Or.inl ⟨by rfl, ?_⟩) ?_ ?_
                      rotate_left
                      · intro w'
                        go_simp
                        with_reducible rfl
                      rotate_left
                      · simp only [Act.put, List.setIfInBounds_toArray, List.set_cons_zero, List.set_cons_succ, i64_w, i32_w]
                        rfl
                      refine pure_ (i := 13) (N := some 49) (v := ?_) (a' := ?_) #[true, true, true, true, true, true, true, true, true, true, true, false, true, true, false, false, false, false, false, false, false] rfl rfl (any_of HT_.out (by kernel_rfl)) (fun _ _ _ h => h) (Or.inl ⟨by rfl, ?_⟩) ?_ ?_
                      rotate_left
                      · intro w'
                        go_simp
                        with_reducible rfl
                      rotate_left
                      · simp only [Act.put, List.setIfInBounds_toArray, List.set_cons_zero, List.set_cons_succ, i64_w, i32_w]
                        rfl
                      refine pure_ (i := 14) (N := some 50) (v := ?_) (a' := ?_) #[true, true, true, true, true, true, true, true, true, true, true, false, true, true, true, false, false, false, false, false, false] rfl rfl (any_of HT_.out (by kernel_rfl)) (fun _ _ _ h => h) (Or.inl ⟨by rfl, ?_⟩) ?_ ?_
                      rotate_left
                      · intro w'
                        go_simp
                        with_reducible rfl
                      rotate_left
                      · simp only [Act.put, List.setIfInBounds_toArray, List.set_cons_zero, List.set_cons_succ, i64_w, i32_w]
                        rfl
                      refine take_ (i := 11) (N := some 47) (v := ?_) (a' := ?_) #[true, true, true, true, true, true, true, true, true, true, true, true, true, true, true, false, false, false, false, false, false] rfl rfl (take_ofW HT_.out HW_.out (by kernel_rfl)) (fun _ _ _ h => h) (Or.inl ⟨by rfl, ?_⟩) hHeld ?_ ?_
                      rotate_left
                      · rintro w' ⟨s0, s1, s2, s3, s4, s5, s6, s7, s8⟩
                        go_simp
                        with_reducible rfl
                      rotate_left
                      · simp only [Act.put, List.setIfInBounds_toArray, List.set_cons_zero, List.set_cons_succ, i64_w, i32_w]
                        rfl
                      refine take_ (i := 15) (N := some 51) (v := ?_) (a' := ?_) #[true, true, true, true, true, true, true, true, true, true, true, true, true, true, true, true, false, false, false, false, false] rfl rfl (take_ofW HT_.out HW_.out (by kernel_rfl)) (fun _ _ _ h => h) (Or.inl ⟨by rfl, ?_⟩) hHeld ?_ ?_
                      rotate_left
                      · rintro w' ⟨s0, s1, s2, s3, s4, s5, s6, s7, s8⟩
                        go_simp
                        with_reducible rfl
                      rotate_left
                      · simp only [Act.put, List.setIfInBounds_toArray, List.set_cons_zero, List.set_cons_succ, i64_w, i32_w]
                        rfl
                      refine pure_ (i := 16) (N := some 52) (v := ?_) (a' := ?_) #[true, true, true, true, true, true, true, true, true, true, true, true, true, true, true, true, true, false, false, false, false] rfl rfl (any_of HT_.out (by kernel_rfl)) (fun _ _ _ h => h) (Or.inl ⟨by rfl, ?_⟩) ?_ ?_
                      rotate_left
                      · intro w'
                        go_simp
                        with_reducible rfl
                      rotate_left
                      · simp only [Act.put, List.setIfInBounds_toArray, List.set_cons_zero, List.set_cons_succ, i64_w, i32_w]
                        rfl
                      refine take_ (i := 17) (N := some 53) (v := ?_) (a' := ?_) #[true, true, true, true, true, true, true, true, true, true, true, true, true, true, true, true, true, true, false, false, false] rfl rfl (take_ofW HT_.out HW_.out (by kernel_rfl)) (fun _ _ _ h => h) (Or.inl ⟨by rfl, ?_⟩) hHeld ?_ ?_
                      rotate_left
                      · rintro w' ⟨s0, s1, s2, s3, s4, s5, s6, s7, s8⟩
                        go_simp
                        with_reducible rfl
                      rotate_left
                      · simp only [Act.put, List.setIfInBounds_toArray, List.set_cons_zero, List.set_cons_succ, i64_w, i32_w]
                        rfl
                      refine one_ (i := 18) (N := some 54) #[true, true, true, true, true, true, true, true, true, true, true, true, true, true, true, true, true, true, true, false, false] rfl rfl (one_of HT_.out (by kernel_rfl)) (by decide) (fun K hK => ?_)
                      refine goes_ Try.func27 (by kernel_rfl) rfl #[.agg #[.bool false, .int .i64 ((rd_T49 t301 (rd t309 x9_1)).f1), .slice A313_2 ((rd_T49 t301 (rd t309 x9_1)).f2).length c313_2]] (by rfl) rfl rfl (by (try simp only [List.map_toArray, List.map_cons, List.map_nil]); first | done | rfl | (simp only [List.length_drop, List.length_take]; rfl)) ?_
                      with_reducible refine (spec_NextBlank.calls k1 false ((rd_T49 t301 (rd t309 x9_1)).f1) _ _ ((rd_T49 t301 (rd t309 x9_1)).f2) t316 _ ?side1 ?side2 A24.out).mono ?_
                      (case side1 => repeat (first | exact (by repeat (first | (with_reducible exact HR315_2.out) | (with_reducible refine Kd.C_alloc ?_ _) | (with_reducible refine Kd.C_drewN ?_ _) | (with_reducible refine Kd.C_drew ?_) | exact HR315_2.out)) | (with_reducible refine Kd.C_alloc ?_ _) | (with_reducible refine Kd.C_drewN ?_ _) | (with_reducible refine Kd.C_drew ?_)))
                      (case side2 => exact HC315_2.out)
                      rintro e w28 ⟨rfl, hb⟩
                      have HS1_ := (hb.cell (World.block_lt_of_cell? _ _ (hHeld.2.1))).trans (hHeld.2.1)
                      have HS2_ := (hb.cell (World.block_lt_of_cell? _ _ (hHeld.2.2.1))).trans (hHeld.2.2.1)
                      have HS3_ := (hb.cell (World.block_lt_of_cell? _ _ (hHeld.2.2.2.1))).trans (hHeld.2.2.2.1)
                      have HS4_ := (hb.cell (World.block_lt_of_cell? _ _ (hHeld.2.2.2.2.1))).trans (hHeld.2.2.2.2.1)
                      have HS5_ := (hb.cell (World.block_lt_of_cell? _ _ (hHeld.2.2.2.2.2.1))).trans (hHeld.2.2.2.2.2.1)
                      have HS6_ := (hb.cell (World.block_lt_of_cell? _ _ (hHeld.2.2.2.2.2.2.1))).trans (hHeld.2.2.2.2.2.2.1)
                      have HS7_ := (hb.cell (World.block_lt_of_cell? _ _ (hHeld.2.2.2.2.2.2.2.1))).trans (hHeld.2.2.2.2.2.2.2.1)
                      have HS8_ := (hb.cell (World.block_lt_of_cell? _ _ (hHeld.2.2.2.2.2.2.2.2))).trans (hHeld.2.2.2.2.2.2.2.2)
                      refine ⟨_, rfl, ?_⟩
                      have n0_ := Aside0.mk (Kd.R_below (by (with_reducible repeat (first | apply Kd.R_alloc | apply Kd.R_drewN | apply Kd.R_drew)); exact HO_8.out) hb)
                      have n1_ := Aside0.mk (Kd.S_below (by (with_reducible repeat (first | apply Kd.S_alloc | apply Kd.S_drewN | apply Kd.S_drew)); exact HO_305000.out) hb)
                      have n2_ := Aside0.mk (Kd.R_below (by (with_reducible repeat (first | apply Kd.R_alloc | apply Kd.R_drewN | apply Kd.R_drew)); exact HL313_2.out) hb)
                      have n3_ := Aside0.mk (Kd.R_below (by (with_reducible repeat (first | apply Kd.R_alloc | apply Kd.R_drewN | apply Kd.R_drew)); exact HL315_2.out) hb)
                      have n4_ := Aside0.mk (blk_below (g := gb304) (o := .cells #[.slice (some ad313) t301.length co11] 40 (0, 0)) (by (with_reducible repeat (first | refine blk_drewN ?_ _ | refine blk_drew ?_ | refine blk_alloc ?_ _)); exact BK304.out) hb)
                      have n5_ := Aside0.mk (Kd.C_below (by repeat (first | (with_reducible exact HR313_2.out) | (with_reducible refine Kd.C_alloc ?_ _) | (with_reducible refine Kd.C_drewN ?_ _) | (with_reducible refine Kd.C_drew ?_) | exact HR313_2.out)) hb)
                      have n6_ := Aside0.mk (Kd.C_below (by repeat (first | (with_reducible exact HR315_2.out) | (with_reducible refine Kd.C_alloc ?_ _) | (with_reducible refine Kd.C_drewN ?_ _) | (with_reducible refine Kd.C_drew ?_) | exact HR315_2.out)) hb)
                      have n7_ := Aside0.mk (below_step (by repeat (first | (with_reducible first | exact HB.out | apply below_alloc | apply pw_below_drewN | apply below_drew1 | refine below_set ?_ GE304.out) | exact HB.out)) hb)
                      clear HO_8
                      clear HO_305000
                      clear HL313_2
                      clear HL315_2
                      clear BK304
                      clear HR313_2
                      clear HR315_2
                      clear HB
                      have HO_8 := n0_
                      have HO_305000 := n1_
                      have HL313_2 := n2_
                      have HL315_2 := n3_
                      have BK304 := n4_
                      have HR313_2 := n5_
                      have HR315_2 := n6_
                      have HB := n7_
                      clear n0_ n1_ n2_ n3_ n4_ n5_ n6_ n7_
                      (try clear hb)
                      (try clear hb2)
                      (try clear hk)
                      (try clear hi)
                      refine hK.out _ _ ⟨(blk_cell BK304.out 0).trans rfl, HS1_, HS2_, HS3_, HS4_, HS5_, HS6_, HS7_, HS8_⟩ (fun hHeld => ?_)
                      clear hK K
                      refine norm_ (a' := ?_) ?_ ?_
                      rotate_left
                      · show Act.put _ (some 54) _ = _
                        simp only [Act.put, List.setIfInBounds_toArray, List.set_cons_zero, List.set_cons_succ, i64_w, i32_w]
                        rfl
                      refine pure_ (i := 19) (N := some 55) (v := ?_) (a' := ?_) #[true, true, true, true, true, true, true, true, true, true, true, true, true, true, true, true, true, true, true, true, false] rfl rfl (any_of HT_.out (by kernel_rfl)) (fun _ _ _ h => h) (Or.inl ⟨by rfl, ?_⟩) ?_ ?_
                      rotate_left
                      · intro w'
                        go_simp
                        with_reducible rfl
                      rotate_left
                      · simp only [Act.put, List.setIfInBounds_toArray, List.set_cons_zero, List.set_cons_succ, i64_w, i32_w]
                        rfl
                      refine pure_ (i := 20) (N := some 56) (v := ?_) (a' := ?_) #[true, true, true, true, true, true, true, true, true, true, true, true, true, true, true, true, true, true, true, true, true] rfl rfl (any_of HT_.out (by kernel_rfl)) (fun _ _ _ h => h) (Or.inl ⟨by rfl, ?_⟩) ?_ ?_
                      rotate_left
                      · intro w'
                        go_simp
                        with_reducible rfl
                      rotate_left
                      · simp only [Act.put, List.setIfInBounds_toArray, List.set_cons_zero, List.set_cons_succ, i64_w, i32_w]
                        rfl
                      refine done_ (done_of HT_.out (by kernel_rfl)) ?_
                      try go_wp2
                      go_roundg k1
                      case measure => have := HK1.out; omega
                      case rel => exact ⟨(wrap64 (x9_1 + 1)), (by first | rfl | (simp; done) | (simp [*]; done)), H', ⟨by have := HK1.out; omega⟩, ⟨by (with_reducible repeat (first | apply Kd.R_alloc | apply Kd.R_drewN | apply Kd.R_drew)); exact HO_8.out⟩, ⟨by (with_reducible repeat (first | apply Kd.S_alloc | apply Kd.S_drewN | apply Kd.S_drew)); exact HO_305000.out⟩, ⟨by (with_reducible repeat (first | refine blk_drewN ?_ _ | refine blk_drew ?_ | refine blk_alloc ?_ _)); exact BK304.out⟩, ⟨by repeat (first | (with_reducible first | exact HB.out | apply below_alloc | apply pw_below_drewN | apply below_drew1 | refine below_set ?_ GE304.out) | exact HB.out)⟩⟩
                    · rw [if_neg c25] at H
                      have c25b0 : (t316 == 0) = false := beq_eq_false_iff_ne.mpr c25
                      have c25b1 : (t316 != 0) = true := bne_iff_ne.mpr c25
                      exact absurd ((Option.some.inj H).trans hT.out) (by decide)
                · rw [if_neg c21] at H
                  exact absurd H (by simp)
              · rw [if_neg c20] at H
                exact absurd H (by simp)
            · rw [if_neg c19] at H
              exact absurd H (by simp)
          · rw [if_neg c18] at H
            have c18b0 : decide (x9_1 < (t309.length : Int)) = false := decide_eq_false c18
            clear c18
            by_cases c29 : t307 = true
            · subst c29
              have H1 : ((spec_Program.f k1 t301 t305 t306 (⟨#[120]⟩ : ByteArray)).bind fun bt318 => (if bt318.2 = true then ((impl_RoomOf.f k1 bt318.1).bind fun t323 => (if t323 = (wrap64 (t308 - 1)) then ((impl_OpenBlock.f k1 t301).bind fun t324 => (if t324 = (-1) then ((laws_in.f k1 t309 t305).bind fun t325 => (if t325 = true then (some true) else ((impl_OpenBlock.f k1 t301).bind fun t326 => (some (t326 == t305))))) else ((impl_OpenBlock.f k1 t301).bind fun t327 => (some (t327 == t305))))) else (some false))) else (some false))) = some r := by rw [if_pos rfl] at H; exact H
              clear H
              have H := H1
              clear H1
              replace H := Option.bind_eq_some_iff.mp H
              obtain ⟨⟨t318, t321⟩, A300, H⟩ := H
              replace H : (if t321 = true then ((impl_RoomOf.f k1 t318).bind fun t323 => (if t323 = (wrap64 (t308 - 1)) then ((impl_OpenBlock.f k1 t301).bind fun t324 => (if t324 = (-1) then ((laws_in.f k1 t309 t305).bind fun t325 => (if t325 = true then (some true) else ((impl_OpenBlock.f k1 t301).bind fun t326 => (some (t326 == t305))))) else ((impl_OpenBlock.f k1 t301).bind fun t327 => (some (t327 == t305))))) else (some false))) else (some false)) = some r := H
              have A30 := Aside0.mk A300
              clear A300
              by_cases c31 : t321 = true
              · subst c31
                have H1 : ((impl_RoomOf.f k1 t318).bind fun t323 => (if t323 = (wrap64 (t308 - 1)) then ((impl_OpenBlock.f k1 t301).bind fun t324 => (if t324 = (-1) then ((laws_in.f k1 t309 t305).bind fun t325 => (if t325 = true then (some true) else ((impl_OpenBlock.f k1 t301).bind fun t326 => (some (t326 == t305))))) else ((impl_OpenBlock.f k1 t301).bind fun t327 => (some (t327 == t305))))) else (some false))) = some r := by rw [if_pos rfl] at H; exact H
                clear H
                have H := H1
                clear H1
                replace H := Option.bind_eq_some_iff.mp H
                obtain ⟨t323, A320, H⟩ := H
                replace H : (if t323 = (wrap64 (t308 - 1)) then ((impl_OpenBlock.f k1 t301).bind fun t324 => (if t324 = (-1) then ((laws_in.f k1 t309 t305).bind fun t325 => (if t325 = true then (some true) else ((impl_OpenBlock.f k1 t301).bind fun t326 => (some (t326 == t305))))) else ((impl_OpenBlock.f k1 t301).bind fun t327 => (some (t327 == t305))))) else (some false)) = some r := H
                have A32 := Aside0.mk A320
                clear A320
                by_cases c33 : t323 = (wrap64 (t308 - 1))
                · rw [if_pos c33] at H
                  have c33b0 : (t323 == (wrap64 (t308 - 1))) = true := beq_iff_eq.mpr c33
                  have c33b1 : (t323 != (wrap64 (t308 - 1))) = false := bne_eq_false_iff_eq.mpr c33
                  clear c33
                  replace H := Option.bind_eq_some_iff.mp H
                  obtain ⟨t324, A340, H⟩ := H
                  replace H : (if t324 = (-1) then ((laws_in.f k1 t309 t305).bind fun t325 => (if t325 = true then (some true) else ((impl_OpenBlock.f k1 t301).bind fun t326 => (some (t326 == t305))))) else ((impl_OpenBlock.f k1 t301).bind fun t327 => (some (t327 == t305)))) = some r := H
                  have A34 := Aside0.mk A340
                  clear A340
                  by_cases c35 : t324 = (-1)
                  · rw [if_pos c35] at H
                    have c35b0 : (t324 == (-1)) = true := beq_iff_eq.mpr c35
                    have c35b1 : (t324 != (-1)) = false := bne_eq_false_iff_eq.mpr c35
                    clear c35
                    replace H := Option.bind_eq_some_iff.mp H
                    obtain ⟨t325, A360, H⟩ := H
                    replace H : (if t325 = true then (some true) else ((impl_OpenBlock.f k1 t301).bind fun t326 => (some (t326 == t305)))) = some r := H
                    have A36 := Aside0.mk A360
                    clear A360
                    by_cases c37 : t325 = true
                    · subst c37
                      have H1 : (some true) = some r := by rw [if_pos rfl] at H; exact H
                      clear H
                      have H := H1
                      clear H1
                      obtain rfl := Option.some.inj H
                      obtain ⟨Ao38, co38, eo38⟩ := Kd.R_slice HO_8.out
                      subst eo38
                      have hcz39_0 : wr.cell? ⟨gb304, 0, none⟩ = some (.slice Ao11 t301.length co11) := (blk_cell BK304.out 0).trans rfl
                      have hfz39_0 := blk_frozen BK304.out 0
                      go_wp2_with (first | ((with_reducible refine gate_callee (f := 29) rfl ?_); refine goesL_ (some 71) rfl rfl Try.func29 (by kernel_rfl) rfl #[.agg #[.slice Ao11 t301.length co11], .int .i64 t305, .int .i64 t306, .string (⟨#[120]⟩ : ByteArray)] rfl (by (try simp only [List.map_toArray, List.map_cons, List.map_nil]); first | done | rfl | (simp only [List.length_drop, List.length_take]; rfl)) ?_; (with_reducible refine (spec_Program.calls k1 _ _ t301 t305 t306 (⟨#[120]⟩ : ByteArray) t318 true _ ?side1 ?side2 A30.out).mono ?_); (case side1 => repeat (first | exact (Kd.S_reads' HO_305000.out).2.2 | (with_reducible refine Kd.C_alloc ?_ _) | (with_reducible refine Kd.C_drewN ?_ _) | (with_reducible refine Kd.C_drew ?_))); (case side2 => exact (Kd.S_reads' HO_305000.out).2.1); rintro e w40 ⟨v319, rfl, ho0, hb⟩; refine ⟨_, rfl, ?_⟩; have n0_ := Aside0.mk (Kd.R_below (by (with_reducible repeat (first | apply Kd.R_alloc | apply Kd.R_drewN | apply Kd.R_drew)); exact HO_8.out) hb); have n1_ := Aside0.mk (Kd.S_elder' (by (with_reducible repeat (first | apply Kd.S_alloc | apply Kd.S_drewN | apply Kd.S_drew)); exact HO_305000.out) (Kd.S_base ho0) hb); have n2_ := Aside0.mk (Kd.S_lower (Kd.S_new' ho0 (Kd.S_lt (by (with_reducible repeat (first | apply Kd.S_alloc | apply Kd.S_drewN | apply Kd.S_drew)); exact HO_305000.out))) (below_size (by repeat (first | (with_reducible first | exact HB.out | apply below_alloc | apply pw_below_drewN | apply below_drew1 | refine below_set ?_ GE304.out) | exact HB.out)))); have n3_ := Aside0.mk (blk_below (g := gb304) (o := .cells #[.slice Ao11 t301.length co11] 40 (0, 0)) (by (with_reducible repeat (first | refine blk_drewN ?_ _ | refine blk_drew ?_ | refine blk_alloc ?_ _)); exact BK304.out) hb); have n4_ := Aside0.mk (below_step (by repeat (first | (with_reducible first | exact HB.out | apply below_alloc | apply pw_below_drewN | apply below_drew1 | refine below_set ?_ GE304.out) | exact HB.out)) hb); clear HO_8; clear HO_305000; clear BK304; clear HB; have HO_8 := n0_; have HO_305000 := n1_; have HO320 := n2_; have BK304 := n3_; have HB := n4_; clear n0_ n1_ n2_ n3_ n4_; (try clear hb); (try clear hb2); (try clear hk); (try clear hi); (try clear ho0)) | ((with_reducible refine gate_dst (N := 10) rfl ?_); (try (refine gate_guard (by rfl) ?_; dsimp only)); refine box_event ?hg (N := 10) ?hd (cs := #[.slice none 0 0]) (t := 40) ?hr ?_; (case hd => rfl); (case hg => rfl); (case hr => first | (go_simp; done) | (go_simp; rfl)); intro gb322 hg w41 hbox hb; have n0_ := Aside0.mk (Kd.R_below (by (with_reducible repeat (first | apply Kd.R_alloc | apply Kd.R_drewN | apply Kd.R_drew)); exact HO_8.out) hb); have n1_ := Aside0.mk (Kd.S_below (by (with_reducible repeat (first | apply Kd.S_alloc | apply Kd.S_drewN | apply Kd.S_drew)); exact HO_305000.out) hb); have n2_ := Aside0.mk (Kd.S_below (by (with_reducible repeat (first | apply Kd.S_alloc | apply Kd.S_drewN | apply Kd.S_drew)); exact HO320.out) hb); have n3_ := Aside0.mk (blk_below (g := gb304) (o := .cells #[.slice Ao11 t301.length co11] 40 (0, 0)) (by (with_reducible repeat (first | refine blk_drewN ?_ _ | refine blk_drew ?_ | refine blk_alloc ?_ _)); exact BK304.out) hb); have n4_ := Aside0.mk (below_step (by repeat (first | (with_reducible first | exact HB.out | apply below_alloc | apply pw_below_drewN | apply below_drew1 | refine below_set ?_ GE304.out) | exact HB.out)) hb); have n5_ := Aside0.mk (hbox); have n6_ := Aside0.mk ((by rw [hg]; exact (below_size (by repeat (first | (with_reducible first | exact HB.out | apply below_alloc | apply pw_below_drewN | apply below_drew1 | refine below_set ?_ GE304.out) | exact HB.out))) : w.heap.size ≤ gb322)); have n7_ := Aside0.mk ((by rw [hg]; exact (below_size (by repeat (first | (with_reducible first | exact HB.out | apply below_alloc | apply pw_below_drewN | apply below_drew1 | refine below_set ?_ GE304.out) | exact HB.out))) : w.heap.size ≤ gb322)); have n8_ := Aside0.mk ((by rw [hg]; exact Nat.ne_of_lt (blk_lt (g := gb304) (o := .cells #[.slice Ao11 t301.length co11] 40 (0, 0)) (by (with_reducible repeat (first | refine blk_drewN ?_ _ | refine blk_drew ?_ | refine blk_alloc ?_ _)); exact BK304.out)) : gb304 ≠ gb322)); have n9_ := Aside0.mk ((by rw [hg]; exact Nat.ne_of_gt (blk_lt (g := gb304) (o := .cells #[.slice Ao11 t301.length co11] 40 (0, 0)) (by (with_reducible repeat (first | refine blk_drewN ?_ _ | refine blk_drew ?_ | refine blk_alloc ?_ _)); exact BK304.out)) : gb322 ≠ gb304)); clear HO_8; clear HO_305000; clear HO320; clear BK304; clear HB; have HO_8 := n0_; have HO_305000 := n1_; have HO320 := n2_; have BK304 := n3_; have HB := n4_; have BK322 := n5_; have GW322 := n6_; have GE322 := n7_; have NB304_322 := n8_; have NB322_304 := n9_; clear n0_ n1_ n2_ n3_ n4_ n5_ n6_ n7_ n8_ n9_; clear hb hbox hg; obtain ⟨Ao42, co42, eo42⟩ := Kd.S_slice HO320.out; subst eo42; have hnb43 := NB322_304.out; have hnc43 := NB304_322.out; have hcz44_0 : w41.cell? ⟨gb322, 0, none⟩ = some (.slice none 0 0) := (blk_cell BK322.out 0).trans rfl; have hfz44_0 := blk_frozen BK322.out 0) | (go_at_call 25; (with_reducible refine (impl_RoomOf.calls k1 _ _ t318 t323 _ ?side1 ?side2 A32.out).mono ?_); (case side1 => refine (Kd.S_reads' (e := 49) (base := w.heap.size) (ok := fun k_ => (True ∧ some k_ ≠ (.slice Ao11 t301.length co11 : Value).ownBlock)) (n := t318.length) (c := co42) ?_).2.2; exact (by (with_reducible repeat (first | apply Kd.S_alloc | apply Kd.S_drewN | apply Kd.S_drew)); exact (Kd.S_mono (Kd.S_far (p := ⟨gb322, 0, none⟩) (Kd.S_types HO320.out BK322.out (by decide)) (fun _ hk => hk.2) (.slice Ao42 t318.length co42)) (fun _ h_ => h_.1)))); (case side2 => exact (Kd.S_reads' HO320.out).2.1); rintro e w45 ⟨rfl, hb⟩; have n0_ := Aside0.mk (Kd.R_below (by (with_reducible repeat (first | apply Kd.R_alloc | apply Kd.R_drewN | apply Kd.R_drew)); exact (Kd.R_mono (Kd.R_far (p := ⟨gb322, 0, none⟩) (Kd.R_types HO_8.out BK322.out (by decide)) (fun _ hk => hk.2) (.slice Ao42 t318.length co42)) (fun _ h_ => h_.1))) hb); have n1_ := Aside0.mk (Kd.S_below (by (with_reducible repeat (first | apply Kd.S_alloc | apply Kd.S_drewN | apply Kd.S_drew)); exact (Kd.S_mono (Kd.S_far (p := ⟨gb322, 0, none⟩) (Kd.S_types HO_305000.out BK322.out (by decide)) (fun _ hk => hk.2) (.slice Ao42 t318.length co42)) (fun _ h_ => h_.1))) hb); have n2_ := Aside0.mk (Kd.S_below (by (with_reducible repeat (first | apply Kd.S_alloc | apply Kd.S_drewN | apply Kd.S_drew)); exact (Kd.S_mono (Kd.S_far (p := ⟨gb322, 0, none⟩) (Kd.S_types HO320.out BK322.out (by decide)) (fun _ hk => hk.2) (.slice Ao42 t318.length co42)) (fun _ h_ => h_.1))) hb); have n3_ := Aside0.mk (blk_below (g := gb304) (o := .cells #[.slice Ao11 t301.length co11] 40 (0, 0)) (by (with_reducible repeat (first | refine blk_drewN ?_ _ | refine blk_drew ?_ | refine blk_alloc ?_ _)); refine blk_far ?_ NB304_322.out _; (with_reducible repeat (first | refine blk_drewN ?_ _ | refine blk_drew ?_ | refine blk_alloc ?_ _)); exact BK304.out) hb); have n4_ := Aside0.mk (blk_below (g := gb322) (o := .cells #[.slice Ao42 t318.length co42] 40 (0, 0)) (by (with_reducible repeat (first | refine blk_drewN ?_ _ | refine blk_drew ?_ | refine blk_alloc ?_ _)); refine blk_put (cs := #[.slice none 0 0]) ?_ 0 _ rfl; (with_reducible repeat (first | refine blk_drewN ?_ _ | refine blk_drew ?_ | refine blk_alloc ?_ _)); exact BK322.out) hb); have n5_ := Aside0.mk (below_step (by repeat (first | (with_reducible first | exact HB.out | apply below_alloc | apply pw_below_drewN | apply below_drew1 | refine below_set ?_ GE304.out | refine below_set ?_ GE322.out) | exact HB.out)) hb); clear HO_8; clear HO_305000; clear HO320; clear BK304; clear BK322; clear HB; have HO_8 := n0_; have HO_305000 := n1_; have HO320 := n2_; have BK304 := n3_; have BK322 := n4_; have HB := n5_; clear n0_ n1_ n2_ n3_ n4_ n5_; (try clear hb); (try clear hb2); (try clear hk); (try clear hi); have hcz46_0 : w45.cell? ⟨gb304, 0, none⟩ = some (.slice Ao11 t301.length co11) := (blk_cell BK304.out 0).trans rfl; have hfz46_0 := blk_frozen BK304.out 0) | (go_at_call 28; (with_reducible refine (impl_OpenBlock.calls k1 _ _ t301 t324 _ ?side1 ?side2 A34.out).mono ?_); (case side1 => repeat (first | exact (Kd.S_reads' HO_305000.out).2.2 | (with_reducible refine Kd.C_alloc ?_ _) | (with_reducible refine Kd.C_drewN ?_ _) | (with_reducible refine Kd.C_drew ?_))); (case side2 => exact (Kd.S_reads' HO_305000.out).2.1); rintro e w47 ⟨rfl, hb⟩; have n0_ := Aside0.mk (Kd.R_below (by (with_reducible repeat (first | apply Kd.R_alloc | apply Kd.R_drewN | apply Kd.R_drew)); exact HO_8.out) hb); have n1_ := Aside0.mk (Kd.S_below (by (with_reducible repeat (first | apply Kd.S_alloc | apply Kd.S_drewN | apply Kd.S_drew)); exact HO_305000.out) hb); have n2_ := Aside0.mk (Kd.S_below (by (with_reducible repeat (first | apply Kd.S_alloc | apply Kd.S_drewN | apply Kd.S_drew)); exact HO320.out) hb); have n3_ := Aside0.mk (blk_below (g := gb304) (o := .cells #[.slice Ao11 t301.length co11] 40 (0, 0)) (by (with_reducible repeat (first | refine blk_drewN ?_ _ | refine blk_drew ?_ | refine blk_alloc ?_ _)); exact BK304.out) hb); have n4_ := Aside0.mk (blk_below (g := gb322) (o := .cells #[.slice Ao42 t318.length co42] 40 (0, 0)) (by (with_reducible repeat (first | refine blk_drewN ?_ _ | refine blk_drew ?_ | refine blk_alloc ?_ _)); exact BK322.out) hb); have n5_ := Aside0.mk (below_step (by repeat (first | (with_reducible first | exact HB.out | apply below_alloc | apply pw_below_drewN | apply below_drew1 | refine below_set ?_ GE304.out | refine below_set ?_ GE322.out) | exact HB.out)) hb); clear HO_8; clear HO_305000; clear HO320; clear BK304; clear BK322; clear HB; have HO_8 := n0_; have HO_305000 := n1_; have HO320 := n2_; have BK304 := n3_; have BK322 := n4_; have HB := n5_; clear n0_ n1_ n2_ n3_ n4_ n5_; (try clear hb); (try clear hb2); (try clear hk); (try clear hi)) | (go_at_call 30; (with_reducible refine (laws_in.calls k1 _ _ t309 t305 true _ ?side1 ?side2 A36.out).mono ?_); (case side1 => repeat (first | exact (Kd.R_reads' HO_8.out).2.2 | (with_reducible refine Kd.C_alloc ?_ _) | (with_reducible refine Kd.C_drewN ?_ _) | (with_reducible refine Kd.C_drew ?_))); (case side2 => exact (Kd.R_reads' HO_8.out).2.1); rintro e w' ⟨rfl, ⟨nd, rfl⟩⟩))
                      go_ret
                      exact ⟨by first | rfl | (simp [errW_none, errW_some] <;> rfl) | (simp [*, errW_none, errW_some] <;> rfl), by repeat (first | (with_reducible first | exact HB.out | apply below_alloc | apply pw_below_drewN | apply below_drew1 | refine below_set ?_ GE304.out | refine below_set ?_ GE322.out) | exact HB.out)⟩
                    · replace c37 := Bool.eq_false_iff.mpr c37
                      subst c37
                      have H1 : ((impl_OpenBlock.f k1 t301).bind fun t326 => (some (t326 == t305))) = some r := by rw [if_neg (show ¬ (false = true) by decide)] at H; exact H
                      clear H
                      have H := H1
                      clear H1
                      replace H := Option.bind_eq_some_iff.mp H
                      obtain ⟨t326, A480, H⟩ := H
                      replace H : (some (t326 == t305)) = some r := H
                      have A48 := Aside0.mk A480
                      try rw [show t326 = t300 from Option.some.inj (A48.out.symm.trans A2.out)] at H
                      try rw [show t326 = t301 from Option.some.inj (A48.out.symm.trans A4.out)] at H
                      try rw [show t326 = t308 from Option.some.inj (A48.out.symm.trans A6.out)] at H
                      try rw [show t326 = t309 from Option.some.inj (A48.out.symm.trans A8.out)] at H
                      try rw [show t326 = t323 from Option.some.inj (A48.out.symm.trans A32.out)] at H
                      try rw [show t326 = t324 from Option.some.inj (A48.out.symm.trans A34.out)] at H
                      try rw [show t326 = t325 from Option.some.inj (A48.out.symm.trans A36.out)] at H
                      clear A480
                      obtain rfl := Option.some.inj H
                      obtain ⟨Ao49, co49, eo49⟩ := Kd.R_slice HO_8.out
                      subst eo49
                      have hcz50_0 : wr.cell? ⟨gb304, 0, none⟩ = some (.slice Ao11 t301.length co11) := (blk_cell BK304.out 0).trans rfl
                      have hfz50_0 := blk_frozen BK304.out 0
                      go_wp2_with (first | ((with_reducible refine gate_callee (f := 29) rfl ?_); refine goesL_ (some 71) rfl rfl Try.func29 (by kernel_rfl) rfl #[.agg #[.slice Ao11 t301.length co11], .int .i64 t305, .int .i64 t306, .string (⟨#[120]⟩ : ByteArray)] rfl (by (try simp only [List.map_toArray, List.map_cons, List.map_nil]); first | done | rfl | (simp only [List.length_drop, List.length_take]; rfl)) ?_; (with_reducible refine (spec_Program.calls k1 _ _ t301 t305 t306 (⟨#[120]⟩ : ByteArray) t318 true _ ?side1 ?side2 A30.out).mono ?_); (case side1 => repeat (first | exact (Kd.S_reads' HO_305000.out).2.2 | (with_reducible refine Kd.C_alloc ?_ _) | (with_reducible refine Kd.C_drewN ?_ _) | (with_reducible refine Kd.C_drew ?_))); (case side2 => exact (Kd.S_reads' HO_305000.out).2.1); rintro e w51 ⟨v319, rfl, ho0, hb⟩; refine ⟨_, rfl, ?_⟩; have n0_ := Aside0.mk (Kd.R_below (by (with_reducible repeat (first | apply Kd.R_alloc | apply Kd.R_drewN | apply Kd.R_drew)); exact HO_8.out) hb); have n1_ := Aside0.mk (Kd.S_elder' (by (with_reducible repeat (first | apply Kd.S_alloc | apply Kd.S_drewN | apply Kd.S_drew)); exact HO_305000.out) (Kd.S_base ho0) hb); have n2_ := Aside0.mk (Kd.S_lower (Kd.S_new' ho0 (Kd.S_lt (by (with_reducible repeat (first | apply Kd.S_alloc | apply Kd.S_drewN | apply Kd.S_drew)); exact HO_305000.out))) (below_size (by repeat (first | (with_reducible first | exact HB.out | apply below_alloc | apply pw_below_drewN | apply below_drew1 | refine below_set ?_ GE304.out) | exact HB.out)))); have n3_ := Aside0.mk (blk_below (g := gb304) (o := .cells #[.slice Ao11 t301.length co11] 40 (0, 0)) (by (with_reducible repeat (first | refine blk_drewN ?_ _ | refine blk_drew ?_ | refine blk_alloc ?_ _)); exact BK304.out) hb); have n4_ := Aside0.mk (below_step (by repeat (first | (with_reducible first | exact HB.out | apply below_alloc | apply pw_below_drewN | apply below_drew1 | refine below_set ?_ GE304.out) | exact HB.out)) hb); clear HO_8; clear HO_305000; clear BK304; clear HB; have HO_8 := n0_; have HO_305000 := n1_; have HO320 := n2_; have BK304 := n3_; have HB := n4_; clear n0_ n1_ n2_ n3_ n4_; (try clear hb); (try clear hb2); (try clear hk); (try clear hi); (try clear ho0)) | ((with_reducible refine gate_dst (N := 10) rfl ?_); (try (refine gate_guard (by rfl) ?_; dsimp only)); refine box_event ?hg (N := 10) ?hd (cs := #[.slice none 0 0]) (t := 40) ?hr ?_; (case hd => rfl); (case hg => rfl); (case hr => first | (go_simp; done) | (go_simp; rfl)); intro gb322 hg w52 hbox hb; have n0_ := Aside0.mk (Kd.R_below (by (with_reducible repeat (first | apply Kd.R_alloc | apply Kd.R_drewN | apply Kd.R_drew)); exact HO_8.out) hb); have n1_ := Aside0.mk (Kd.S_below (by (with_reducible repeat (first | apply Kd.S_alloc | apply Kd.S_drewN | apply Kd.S_drew)); exact HO_305000.out) hb); have n2_ := Aside0.mk (Kd.S_below (by (with_reducible repeat (first | apply Kd.S_alloc | apply Kd.S_drewN | apply Kd.S_drew)); exact HO320.out) hb); have n3_ := Aside0.mk (blk_below (g := gb304) (o := .cells #[.slice Ao11 t301.length co11] 40 (0, 0)) (by (with_reducible repeat (first | refine blk_drewN ?_ _ | refine blk_drew ?_ | refine blk_alloc ?_ _)); exact BK304.out) hb); have n4_ := Aside0.mk (below_step (by repeat (first | (with_reducible first | exact HB.out | apply below_alloc | apply pw_below_drewN | apply below_drew1 | refine below_set ?_ GE304.out) | exact HB.out)) hb); have n5_ := Aside0.mk (hbox); have n6_ := Aside0.mk ((by rw [hg]; exact (below_size (by repeat (first | (with_reducible first | exact HB.out | apply below_alloc | apply pw_below_drewN | apply below_drew1 | refine below_set ?_ GE304.out) | exact HB.out))) : w.heap.size ≤ gb322)); have n7_ := Aside0.mk ((by rw [hg]; exact (below_size (by repeat (first | (with_reducible first | exact HB.out | apply below_alloc | apply pw_below_drewN | apply below_drew1 | refine below_set ?_ GE304.out) | exact HB.out))) : w.heap.size ≤ gb322)); have n8_ := Aside0.mk ((by rw [hg]; exact Nat.ne_of_lt (blk_lt (g := gb304) (o := .cells #[.slice Ao11 t301.length co11] 40 (0, 0)) (by (with_reducible repeat (first | refine blk_drewN ?_ _ | refine blk_drew ?_ | refine blk_alloc ?_ _)); exact BK304.out)) : gb304 ≠ gb322)); have n9_ := Aside0.mk ((by rw [hg]; exact Nat.ne_of_gt (blk_lt (g := gb304) (o := .cells #[.slice Ao11 t301.length co11] 40 (0, 0)) (by (with_reducible repeat (first | refine blk_drewN ?_ _ | refine blk_drew ?_ | refine blk_alloc ?_ _)); exact BK304.out)) : gb322 ≠ gb304)); clear HO_8; clear HO_305000; clear HO320; clear BK304; clear HB; have HO_8 := n0_; have HO_305000 := n1_; have HO320 := n2_; have BK304 := n3_; have HB := n4_; have BK322 := n5_; have GW322 := n6_; have GE322 := n7_; have NB304_322 := n8_; have NB322_304 := n9_; clear n0_ n1_ n2_ n3_ n4_ n5_ n6_ n7_ n8_ n9_; clear hb hbox hg; obtain ⟨Ao53, co53, eo53⟩ := Kd.S_slice HO320.out; subst eo53; have hnb54 := NB322_304.out; have hnc54 := NB304_322.out; have hcz55_0 : w52.cell? ⟨gb322, 0, none⟩ = some (.slice none 0 0) := (blk_cell BK322.out 0).trans rfl; have hfz55_0 := blk_frozen BK322.out 0) | (go_at_call 25; (with_reducible refine (impl_RoomOf.calls k1 _ _ t318 t323 _ ?side1 ?side2 A32.out).mono ?_); (case side1 => refine (Kd.S_reads' (e := 49) (base := w.heap.size) (ok := fun k_ => (True ∧ some k_ ≠ (.slice Ao11 t301.length co11 : Value).ownBlock)) (n := t318.length) (c := co53) ?_).2.2; exact (by (with_reducible repeat (first | apply Kd.S_alloc | apply Kd.S_drewN | apply Kd.S_drew)); exact (Kd.S_mono (Kd.S_far (p := ⟨gb322, 0, none⟩) (Kd.S_types HO320.out BK322.out (by decide)) (fun _ hk => hk.2) (.slice Ao53 t318.length co53)) (fun _ h_ => h_.1)))); (case side2 => exact (Kd.S_reads' HO320.out).2.1); rintro e w56 ⟨rfl, hb⟩; have n0_ := Aside0.mk (Kd.R_below (by (with_reducible repeat (first | apply Kd.R_alloc | apply Kd.R_drewN | apply Kd.R_drew)); exact (Kd.R_mono (Kd.R_far (p := ⟨gb322, 0, none⟩) (Kd.R_types HO_8.out BK322.out (by decide)) (fun _ hk => hk.2) (.slice Ao53 t318.length co53)) (fun _ h_ => h_.1))) hb); have n1_ := Aside0.mk (Kd.S_below (by (with_reducible repeat (first | apply Kd.S_alloc | apply Kd.S_drewN | apply Kd.S_drew)); exact (Kd.S_mono (Kd.S_far (p := ⟨gb322, 0, none⟩) (Kd.S_types HO_305000.out BK322.out (by decide)) (fun _ hk => hk.2) (.slice Ao53 t318.length co53)) (fun _ h_ => h_.1))) hb); have n2_ := Aside0.mk (Kd.S_below (by (with_reducible repeat (first | apply Kd.S_alloc | apply Kd.S_drewN | apply Kd.S_drew)); exact (Kd.S_mono (Kd.S_far (p := ⟨gb322, 0, none⟩) (Kd.S_types HO320.out BK322.out (by decide)) (fun _ hk => hk.2) (.slice Ao53 t318.length co53)) (fun _ h_ => h_.1))) hb); have n3_ := Aside0.mk (blk_below (g := gb304) (o := .cells #[.slice Ao11 t301.length co11] 40 (0, 0)) (by (with_reducible repeat (first | refine blk_drewN ?_ _ | refine blk_drew ?_ | refine blk_alloc ?_ _)); refine blk_far ?_ NB304_322.out _; (with_reducible repeat (first | refine blk_drewN ?_ _ | refine blk_drew ?_ | refine blk_alloc ?_ _)); exact BK304.out) hb); have n4_ := Aside0.mk (blk_below (g := gb322) (o := .cells #[.slice Ao53 t318.length co53] 40 (0, 0)) (by (with_reducible repeat (first | refine blk_drewN ?_ _ | refine blk_drew ?_ | refine blk_alloc ?_ _)); refine blk_put (cs := #[.slice none 0 0]) ?_ 0 _ rfl; (with_reducible repeat (first | refine blk_drewN ?_ _ | refine blk_drew ?_ | refine blk_alloc ?_ _)); exact BK322.out) hb); have n5_ := Aside0.mk (below_step (by repeat (first | (with_reducible first | exact HB.out | apply below_alloc | apply pw_below_drewN | apply below_drew1 | refine below_set ?_ GE304.out | refine below_set ?_ GE322.out) | exact HB.out)) hb); clear HO_8; clear HO_305000; clear HO320; clear BK304; clear BK322; clear HB; have HO_8 := n0_; have HO_305000 := n1_; have HO320 := n2_; have BK304 := n3_; have BK322 := n4_; have HB := n5_; clear n0_ n1_ n2_ n3_ n4_ n5_; (try clear hb); (try clear hb2); (try clear hk); (try clear hi); have hcz57_0 : w56.cell? ⟨gb304, 0, none⟩ = some (.slice Ao11 t301.length co11) := (blk_cell BK304.out 0).trans rfl; have hfz57_0 := blk_frozen BK304.out 0) | (go_at_call 28; (with_reducible refine (impl_OpenBlock.calls k1 _ _ t301 t324 _ ?side1 ?side2 A34.out).mono ?_); (case side1 => repeat (first | exact (Kd.S_reads' HO_305000.out).2.2 | (with_reducible refine Kd.C_alloc ?_ _) | (with_reducible refine Kd.C_drewN ?_ _) | (with_reducible refine Kd.C_drew ?_))); (case side2 => exact (Kd.S_reads' HO_305000.out).2.1); rintro e w58 ⟨rfl, hb⟩; have n0_ := Aside0.mk (Kd.R_below (by (with_reducible repeat (first | apply Kd.R_alloc | apply Kd.R_drewN | apply Kd.R_drew)); exact HO_8.out) hb); have n1_ := Aside0.mk (Kd.S_below (by (with_reducible repeat (first | apply Kd.S_alloc | apply Kd.S_drewN | apply Kd.S_drew)); exact HO_305000.out) hb); have n2_ := Aside0.mk (Kd.S_below (by (with_reducible repeat (first | apply Kd.S_alloc | apply Kd.S_drewN | apply Kd.S_drew)); exact HO320.out) hb); have n3_ := Aside0.mk (blk_below (g := gb304) (o := .cells #[.slice Ao11 t301.length co11] 40 (0, 0)) (by (with_reducible repeat (first | refine blk_drewN ?_ _ | refine blk_drew ?_ | refine blk_alloc ?_ _)); exact BK304.out) hb); have n4_ := Aside0.mk (blk_below (g := gb322) (o := .cells #[.slice Ao53 t318.length co53] 40 (0, 0)) (by (with_reducible repeat (first | refine blk_drewN ?_ _ | refine blk_drew ?_ | refine blk_alloc ?_ _)); exact BK322.out) hb); have n5_ := Aside0.mk (below_step (by repeat (first | (with_reducible first | exact HB.out | apply below_alloc | apply pw_below_drewN | apply below_drew1 | refine below_set ?_ GE304.out | refine below_set ?_ GE322.out) | exact HB.out)) hb); clear HO_8; clear HO_305000; clear HO320; clear BK304; clear BK322; clear HB; have HO_8 := n0_; have HO_305000 := n1_; have HO320 := n2_; have BK304 := n3_; have BK322 := n4_; have HB := n5_; clear n0_ n1_ n2_ n3_ n4_ n5_; (try clear hb); (try clear hb2); (try clear hk); (try clear hi)) | (go_at_call 30; (with_reducible refine (laws_in.calls k1 _ _ t309 t305 false _ ?side1 ?side2 A36.out).mono ?_); (case side1 => repeat (first | exact (Kd.R_reads' HO_8.out).2.2 | (with_reducible refine Kd.C_alloc ?_ _) | (with_reducible refine Kd.C_drewN ?_ _) | (with_reducible refine Kd.C_drew ?_))); (case side2 => exact (Kd.R_reads' HO_8.out).2.1); rintro e w' ⟨rfl, ⟨nd, rfl⟩⟩; have hcz59_0 : w58.cell? ⟨gb304, 0, none⟩ = some (.slice Ao11 t301.length co11) := (blk_cell BK304.out 0).trans rfl; have hfz59_0 := blk_frozen BK304.out 0) | (go_at_call 28; (with_reducible refine (impl_OpenBlock.calls k1 _ _ t301 t326 _ ?side1 ?side2 A48.out).mono ?_); (case side1 => repeat (first | exact (Kd.S_reads' HO_305000.out).2.2 | (with_reducible refine Kd.C_alloc ?_ _) | (with_reducible refine Kd.C_drewN ?_ _) | (with_reducible refine Kd.C_drew ?_))); (case side2 => exact (Kd.S_reads' HO_305000.out).2.1); rintro e w60 ⟨rfl, hb⟩; have n0_ := Aside0.mk (Kd.R_below (by (with_reducible repeat (first | apply Kd.R_alloc | apply Kd.R_drewN | apply Kd.R_drew)); exact HO_8.out) hb); have n1_ := Aside0.mk (Kd.S_below (by (with_reducible repeat (first | apply Kd.S_alloc | apply Kd.S_drewN | apply Kd.S_drew)); exact HO_305000.out) hb); have n2_ := Aside0.mk (Kd.S_below (by (with_reducible repeat (first | apply Kd.S_alloc | apply Kd.S_drewN | apply Kd.S_drew)); exact HO320.out) hb); have n3_ := Aside0.mk (blk_below (g := gb304) (o := .cells #[.slice Ao11 t301.length co11] 40 (0, 0)) (by (with_reducible repeat (first | refine blk_drewN ?_ _ | refine blk_drew ?_ | refine blk_alloc ?_ _)); exact BK304.out) hb); have n4_ := Aside0.mk (blk_below (g := gb322) (o := .cells #[.slice Ao53 t318.length co53] 40 (0, 0)) (by (with_reducible repeat (first | refine blk_drewN ?_ _ | refine blk_drew ?_ | refine blk_alloc ?_ _)); exact BK322.out) hb); have n5_ := Aside0.mk (below_step (by repeat (first | (with_reducible first | exact HB.out | apply below_alloc | apply pw_below_drewN | apply below_drew1 | refine below_set ?_ GE304.out | refine below_set ?_ GE322.out) | exact HB.out)) hb); clear HO_8; clear HO_305000; clear HO320; clear BK304; clear BK322; clear HB; have HO_8 := n0_; have HO_305000 := n1_; have HO320 := n2_; have BK304 := n3_; have BK322 := n4_; have HB := n5_; clear n0_ n1_ n2_ n3_ n4_ n5_; (try clear hb); (try clear hb2); (try clear hk); (try clear hi)))
                      go_ret
                      exact ⟨by first | rfl | (simp [errW_none, errW_some] <;> rfl) | (simp [*, errW_none, errW_some] <;> rfl), by repeat (first | (with_reducible first | exact HB.out | apply below_alloc | apply pw_below_drewN | apply below_drew1 | refine below_set ?_ GE304.out | refine below_set ?_ GE322.out) | exact HB.out)⟩
                  · rw [if_neg c35] at H
                    have c35b0 : (t324 == (-1)) = false := beq_eq_false_iff_ne.mpr c35
                    have c35b1 : (t324 != (-1)) = true := bne_iff_ne.mpr c35
                    replace H := Option.bind_eq_some_iff.mp H
                    obtain ⟨t327, A610, H⟩ := H
                    replace H : (some (t327 == t305)) = some r := H
                    have A61 := Aside0.mk A610
                    try rw [show t327 = t300 from Option.some.inj (A61.out.symm.trans A2.out)] at H
                    try rw [show t327 = t301 from Option.some.inj (A61.out.symm.trans A4.out)] at H
                    try rw [show t327 = t308 from Option.some.inj (A61.out.symm.trans A6.out)] at H
                    try rw [show t327 = t309 from Option.some.inj (A61.out.symm.trans A8.out)] at H
                    try rw [show t327 = t323 from Option.some.inj (A61.out.symm.trans A32.out)] at H
                    try rw [show t327 = t324 from Option.some.inj (A61.out.symm.trans A34.out)] at H
                    clear A610
                    obtain rfl := Option.some.inj H
                    obtain ⟨Ao62, co62, eo62⟩ := Kd.R_slice HO_8.out
                    subst eo62
                    have hcz63_0 : wr.cell? ⟨gb304, 0, none⟩ = some (.slice Ao11 t301.length co11) := (blk_cell BK304.out 0).trans rfl
                    have hfz63_0 := blk_frozen BK304.out 0
                    go_wp2_with (first | ((with_reducible refine gate_callee (f := 29) rfl ?_); refine goesL_ (some 71) rfl rfl Try.func29 (by kernel_rfl) rfl #[.agg #[.slice Ao11 t301.length co11], .int .i64 t305, .int .i64 t306, .string (⟨#[120]⟩ : ByteArray)] rfl (by (try simp only [List.map_toArray, List.map_cons, List.map_nil]); first | done | rfl | (simp only [List.length_drop, List.length_take]; rfl)) ?_; (with_reducible refine (spec_Program.calls k1 _ _ t301 t305 t306 (⟨#[120]⟩ : ByteArray) t318 true _ ?side1 ?side2 A30.out).mono ?_); (case side1 => repeat (first | exact (Kd.S_reads' HO_305000.out).2.2 | (with_reducible refine Kd.C_alloc ?_ _) | (with_reducible refine Kd.C_drewN ?_ _) | (with_reducible refine Kd.C_drew ?_))); (case side2 => exact (Kd.S_reads' HO_305000.out).2.1); rintro e w64 ⟨v319, rfl, ho0, hb⟩; refine ⟨_, rfl, ?_⟩; have n0_ := Aside0.mk (Kd.R_below (by (with_reducible repeat (first | apply Kd.R_alloc | apply Kd.R_drewN | apply Kd.R_drew)); exact HO_8.out) hb); have n1_ := Aside0.mk (Kd.S_elder' (by (with_reducible repeat (first | apply Kd.S_alloc | apply Kd.S_drewN | apply Kd.S_drew)); exact HO_305000.out) (Kd.S_base ho0) hb); have n2_ := Aside0.mk (Kd.S_lower (Kd.S_new' ho0 (Kd.S_lt (by (with_reducible repeat (first | apply Kd.S_alloc | apply Kd.S_drewN | apply Kd.S_drew)); exact HO_305000.out))) (below_size (by repeat (first | (with_reducible first | exact HB.out | apply below_alloc | apply pw_below_drewN | apply below_drew1 | refine below_set ?_ GE304.out) | exact HB.out)))); have n3_ := Aside0.mk (blk_below (g := gb304) (o := .cells #[.slice Ao11 t301.length co11] 40 (0, 0)) (by (with_reducible repeat (first | refine blk_drewN ?_ _ | refine blk_drew ?_ | refine blk_alloc ?_ _)); exact BK304.out) hb); have n4_ := Aside0.mk (below_step (by repeat (first | (with_reducible first | exact HB.out | apply below_alloc | apply pw_below_drewN | apply below_drew1 | refine below_set ?_ GE304.out) | exact HB.out)) hb); clear HO_8; clear HO_305000; clear BK304; clear HB; have HO_8 := n0_; have HO_305000 := n1_; have HO320 := n2_; have BK304 := n3_; have HB := n4_; clear n0_ n1_ n2_ n3_ n4_; (try clear hb); (try clear hb2); (try clear hk); (try clear hi); (try clear ho0)) | ((with_reducible refine gate_dst (N := 10) rfl ?_); (try (refine gate_guard (by rfl) ?_; dsimp only)); refine box_event ?hg (N := 10) ?hd (cs := #[.slice none 0 0]) (t := 40) ?hr ?_; (case hd => rfl); (case hg => rfl); (case hr => first | (go_simp; done) | (go_simp; rfl)); intro gb322 hg w65 hbox hb; have n0_ := Aside0.mk (Kd.R_below (by (with_reducible repeat (first | apply Kd.R_alloc | apply Kd.R_drewN | apply Kd.R_drew)); exact HO_8.out) hb); have n1_ := Aside0.mk (Kd.S_below (by (with_reducible repeat (first | apply Kd.S_alloc | apply Kd.S_drewN | apply Kd.S_drew)); exact HO_305000.out) hb); have n2_ := Aside0.mk (Kd.S_below (by (with_reducible repeat (first | apply Kd.S_alloc | apply Kd.S_drewN | apply Kd.S_drew)); exact HO320.out) hb); have n3_ := Aside0.mk (blk_below (g := gb304) (o := .cells #[.slice Ao11 t301.length co11] 40 (0, 0)) (by (with_reducible repeat (first | refine blk_drewN ?_ _ | refine blk_drew ?_ | refine blk_alloc ?_ _)); exact BK304.out) hb); have n4_ := Aside0.mk (below_step (by repeat (first | (with_reducible first | exact HB.out | apply below_alloc | apply pw_below_drewN | apply below_drew1 | refine below_set ?_ GE304.out) | exact HB.out)) hb); have n5_ := Aside0.mk (hbox); have n6_ := Aside0.mk ((by rw [hg]; exact (below_size (by repeat (first | (with_reducible first | exact HB.out | apply below_alloc | apply pw_below_drewN | apply below_drew1 | refine below_set ?_ GE304.out) | exact HB.out))) : w.heap.size ≤ gb322)); have n7_ := Aside0.mk ((by rw [hg]; exact (below_size (by repeat (first | (with_reducible first | exact HB.out | apply below_alloc | apply pw_below_drewN | apply below_drew1 | refine below_set ?_ GE304.out) | exact HB.out))) : w.heap.size ≤ gb322)); have n8_ := Aside0.mk ((by rw [hg]; exact Nat.ne_of_lt (blk_lt (g := gb304) (o := .cells #[.slice Ao11 t301.length co11] 40 (0, 0)) (by (with_reducible repeat (first | refine blk_drewN ?_ _ | refine blk_drew ?_ | refine blk_alloc ?_ _)); exact BK304.out)) : gb304 ≠ gb322)); have n9_ := Aside0.mk ((by rw [hg]; exact Nat.ne_of_gt (blk_lt (g := gb304) (o := .cells #[.slice Ao11 t301.length co11] 40 (0, 0)) (by (with_reducible repeat (first | refine blk_drewN ?_ _ | refine blk_drew ?_ | refine blk_alloc ?_ _)); exact BK304.out)) : gb322 ≠ gb304)); clear HO_8; clear HO_305000; clear HO320; clear BK304; clear HB; have HO_8 := n0_; have HO_305000 := n1_; have HO320 := n2_; have BK304 := n3_; have HB := n4_; have BK322 := n5_; have GW322 := n6_; have GE322 := n7_; have NB304_322 := n8_; have NB322_304 := n9_; clear n0_ n1_ n2_ n3_ n4_ n5_ n6_ n7_ n8_ n9_; clear hb hbox hg; obtain ⟨Ao66, co66, eo66⟩ := Kd.S_slice HO320.out; subst eo66; have hnb67 := NB322_304.out; have hnc67 := NB304_322.out; have hcz68_0 : w65.cell? ⟨gb322, 0, none⟩ = some (.slice none 0 0) := (blk_cell BK322.out 0).trans rfl; have hfz68_0 := blk_frozen BK322.out 0) | (go_at_call 25; (with_reducible refine (impl_RoomOf.calls k1 _ _ t318 t323 _ ?side1 ?side2 A32.out).mono ?_); (case side1 => refine (Kd.S_reads' (e := 49) (base := w.heap.size) (ok := fun k_ => (True ∧ some k_ ≠ (.slice Ao11 t301.length co11 : Value).ownBlock)) (n := t318.length) (c := co66) ?_).2.2; exact (by (with_reducible repeat (first | apply Kd.S_alloc | apply Kd.S_drewN | apply Kd.S_drew)); exact (Kd.S_mono (Kd.S_far (p := ⟨gb322, 0, none⟩) (Kd.S_types HO320.out BK322.out (by decide)) (fun _ hk => hk.2) (.slice Ao66 t318.length co66)) (fun _ h_ => h_.1)))); (case side2 => exact (Kd.S_reads' HO320.out).2.1); rintro e w69 ⟨rfl, hb⟩; have n0_ := Aside0.mk (Kd.R_below (by (with_reducible repeat (first | apply Kd.R_alloc | apply Kd.R_drewN | apply Kd.R_drew)); exact (Kd.R_mono (Kd.R_far (p := ⟨gb322, 0, none⟩) (Kd.R_types HO_8.out BK322.out (by decide)) (fun _ hk => hk.2) (.slice Ao66 t318.length co66)) (fun _ h_ => h_.1))) hb); have n1_ := Aside0.mk (Kd.S_below (by (with_reducible repeat (first | apply Kd.S_alloc | apply Kd.S_drewN | apply Kd.S_drew)); exact (Kd.S_mono (Kd.S_far (p := ⟨gb322, 0, none⟩) (Kd.S_types HO_305000.out BK322.out (by decide)) (fun _ hk => hk.2) (.slice Ao66 t318.length co66)) (fun _ h_ => h_.1))) hb); have n2_ := Aside0.mk (Kd.S_below (by (with_reducible repeat (first | apply Kd.S_alloc | apply Kd.S_drewN | apply Kd.S_drew)); exact (Kd.S_mono (Kd.S_far (p := ⟨gb322, 0, none⟩) (Kd.S_types HO320.out BK322.out (by decide)) (fun _ hk => hk.2) (.slice Ao66 t318.length co66)) (fun _ h_ => h_.1))) hb); have n3_ := Aside0.mk (blk_below (g := gb304) (o := .cells #[.slice Ao11 t301.length co11] 40 (0, 0)) (by (with_reducible repeat (first | refine blk_drewN ?_ _ | refine blk_drew ?_ | refine blk_alloc ?_ _)); refine blk_far ?_ NB304_322.out _; (with_reducible repeat (first | refine blk_drewN ?_ _ | refine blk_drew ?_ | refine blk_alloc ?_ _)); exact BK304.out) hb); have n4_ := Aside0.mk (blk_below (g := gb322) (o := .cells #[.slice Ao66 t318.length co66] 40 (0, 0)) (by (with_reducible repeat (first | refine blk_drewN ?_ _ | refine blk_drew ?_ | refine blk_alloc ?_ _)); refine blk_put (cs := #[.slice none 0 0]) ?_ 0 _ rfl; (with_reducible repeat (first | refine blk_drewN ?_ _ | refine blk_drew ?_ | refine blk_alloc ?_ _)); exact BK322.out) hb); have n5_ := Aside0.mk (below_step (by repeat (first | (with_reducible first | exact HB.out | apply below_alloc | apply pw_below_drewN | apply below_drew1 | refine below_set ?_ GE304.out | refine below_set ?_ GE322.out) | exact HB.out)) hb); clear HO_8; clear HO_305000; clear HO320; clear BK304; clear BK322; clear HB; have HO_8 := n0_; have HO_305000 := n1_; have HO320 := n2_; have BK304 := n3_; have BK322 := n4_; have HB := n5_; clear n0_ n1_ n2_ n3_ n4_ n5_; (try clear hb); (try clear hb2); (try clear hk); (try clear hi); have hcz70_0 : w69.cell? ⟨gb304, 0, none⟩ = some (.slice Ao11 t301.length co11) := (blk_cell BK304.out 0).trans rfl; have hfz70_0 := blk_frozen BK304.out 0) | (go_at_call 28; (with_reducible refine (impl_OpenBlock.calls k1 _ _ t301 t324 _ ?side1 ?side2 A34.out).mono ?_); (case side1 => repeat (first | exact (Kd.S_reads' HO_305000.out).2.2 | (with_reducible refine Kd.C_alloc ?_ _) | (with_reducible refine Kd.C_drewN ?_ _) | (with_reducible refine Kd.C_drew ?_))); (case side2 => exact (Kd.S_reads' HO_305000.out).2.1); rintro e w71 ⟨rfl, hb⟩; have n0_ := Aside0.mk (Kd.R_below (by (with_reducible repeat (first | apply Kd.R_alloc | apply Kd.R_drewN | apply Kd.R_drew)); exact HO_8.out) hb); have n1_ := Aside0.mk (Kd.S_below (by (with_reducible repeat (first | apply Kd.S_alloc | apply Kd.S_drewN | apply Kd.S_drew)); exact HO_305000.out) hb); have n2_ := Aside0.mk (Kd.S_below (by (with_reducible repeat (first | apply Kd.S_alloc | apply Kd.S_drewN | apply Kd.S_drew)); exact HO320.out) hb); have n3_ := Aside0.mk (blk_below (g := gb304) (o := .cells #[.slice Ao11 t301.length co11] 40 (0, 0)) (by (with_reducible repeat (first | refine blk_drewN ?_ _ | refine blk_drew ?_ | refine blk_alloc ?_ _)); exact BK304.out) hb); have n4_ := Aside0.mk (blk_below (g := gb322) (o := .cells #[.slice Ao66 t318.length co66] 40 (0, 0)) (by (with_reducible repeat (first | refine blk_drewN ?_ _ | refine blk_drew ?_ | refine blk_alloc ?_ _)); exact BK322.out) hb); have n5_ := Aside0.mk (below_step (by repeat (first | (with_reducible first | exact HB.out | apply below_alloc | apply pw_below_drewN | apply below_drew1 | refine below_set ?_ GE304.out | refine below_set ?_ GE322.out) | exact HB.out)) hb); clear HO_8; clear HO_305000; clear HO320; clear BK304; clear BK322; clear HB; have HO_8 := n0_; have HO_305000 := n1_; have HO320 := n2_; have BK304 := n3_; have BK322 := n4_; have HB := n5_; clear n0_ n1_ n2_ n3_ n4_ n5_; (try clear hb); (try clear hb2); (try clear hk); (try clear hi); have hcz72_0 : w71.cell? ⟨gb304, 0, none⟩ = some (.slice Ao11 t301.length co11) := (blk_cell BK304.out 0).trans rfl; have hfz72_0 := blk_frozen BK304.out 0) | (go_at_call 28; (with_reducible refine (impl_OpenBlock.calls k1 _ _ t301 t327 _ ?side1 ?side2 A61.out).mono ?_); (case side1 => repeat (first | exact (Kd.S_reads' HO_305000.out).2.2 | (with_reducible refine Kd.C_alloc ?_ _) | (with_reducible refine Kd.C_drewN ?_ _) | (with_reducible refine Kd.C_drew ?_))); (case side2 => exact (Kd.S_reads' HO_305000.out).2.1); rintro e w73 ⟨rfl, hb⟩; have n0_ := Aside0.mk (Kd.R_below (by (with_reducible repeat (first | apply Kd.R_alloc | apply Kd.R_drewN | apply Kd.R_drew)); exact HO_8.out) hb); have n1_ := Aside0.mk (Kd.S_below (by (with_reducible repeat (first | apply Kd.S_alloc | apply Kd.S_drewN | apply Kd.S_drew)); exact HO_305000.out) hb); have n2_ := Aside0.mk (Kd.S_below (by (with_reducible repeat (first | apply Kd.S_alloc | apply Kd.S_drewN | apply Kd.S_drew)); exact HO320.out) hb); have n3_ := Aside0.mk (blk_below (g := gb304) (o := .cells #[.slice Ao11 t301.length co11] 40 (0, 0)) (by (with_reducible repeat (first | refine blk_drewN ?_ _ | refine blk_drew ?_ | refine blk_alloc ?_ _)); exact BK304.out) hb); have n4_ := Aside0.mk (blk_below (g := gb322) (o := .cells #[.slice Ao66 t318.length co66] 40 (0, 0)) (by (with_reducible repeat (first | refine blk_drewN ?_ _ | refine blk_drew ?_ | refine blk_alloc ?_ _)); exact BK322.out) hb); have n5_ := Aside0.mk (below_step (by repeat (first | (with_reducible first | exact HB.out | apply below_alloc | apply pw_below_drewN | apply below_drew1 | refine below_set ?_ GE304.out | refine below_set ?_ GE322.out) | exact HB.out)) hb); clear HO_8; clear HO_305000; clear HO320; clear BK304; clear BK322; clear HB; have HO_8 := n0_; have HO_305000 := n1_; have HO320 := n2_; have BK304 := n3_; have BK322 := n4_; have HB := n5_; clear n0_ n1_ n2_ n3_ n4_ n5_; (try clear hb); (try clear hb2); (try clear hk); (try clear hi)))
                    go_ret
                    exact ⟨by first | rfl | (simp [errW_none, errW_some] <;> rfl) | (simp [*, errW_none, errW_some] <;> rfl), by repeat (first | (with_reducible first | exact HB.out | apply below_alloc | apply pw_below_drewN | apply below_drew1 | refine below_set ?_ GE304.out | refine below_set ?_ GE322.out) | exact HB.out)⟩
                · rw [if_neg c33] at H
                  have c33b0 : (t323 == (wrap64 (t308 - 1))) = false := beq_eq_false_iff_ne.mpr c33
                  have c33b1 : (t323 != (wrap64 (t308 - 1))) = true := bne_iff_ne.mpr c33
                  exact absurd ((Option.some.inj H).trans hT.out) (by decide)
              · replace c31 := Bool.eq_false_iff.mpr c31
                subst c31
                have H1 : (some false) = some r := by rw [if_neg (show ¬ (false = true) by decide)] at H; exact H
                clear H
                have H := H1
                clear H1
                exact absurd ((Option.some.inj H).trans hT.out) (by decide)
            · replace c29 := Bool.eq_false_iff.mpr c29
              subst c29
              have H1 : ((impl_OpenBlock.f k1 t301).bind fun t317 => (if t317 = (-1) then (some ((t309.length : Int) == 0)) else (some false))) = some r := by rw [if_neg (show ¬ (false = true) by decide)] at H; exact H
              clear H
              have H := H1
              clear H1
              replace H := Option.bind_eq_some_iff.mp H
              obtain ⟨t317, A740, H⟩ := H
              replace H : (if t317 = (-1) then (some ((t309.length : Int) == 0)) else (some false)) = some r := H
              have A74 := Aside0.mk A740
              clear A740
              by_cases c75 : t317 = (-1)
              · rw [if_pos c75] at H
                have c75b0 : (t317 == (-1)) = true := beq_iff_eq.mpr c75
                have c75b1 : (t317 != (-1)) = false := bne_eq_false_iff_eq.mpr c75
                clear c75
                obtain rfl := Option.some.inj H
                obtain ⟨Ao76, co76, eo76⟩ := Kd.R_slice HO_8.out
                subst eo76
                have hcz77_0 : wr.cell? ⟨gb304, 0, none⟩ = some (.slice Ao11 t301.length co11) := (blk_cell BK304.out 0).trans rfl
                have hfz77_0 := blk_frozen BK304.out 0
                go_wp2_with (first | ((with_reducible refine gate_callee (f := 28) rfl ?_); refine goesL_ (some 60) rfl rfl Try.func28 (by kernel_rfl) rfl #[.agg #[.slice Ao11 t301.length co11]] rfl (by (try simp only [List.map_toArray, List.map_cons, List.map_nil]); first | done | rfl | (simp only [List.length_drop, List.length_take]; rfl)) ?_; (with_reducible refine (impl_OpenBlock.calls k1 _ _ t301 t317 _ ?side1 ?side2 A74.out).mono ?_); (case side1 => repeat (first | exact (Kd.S_reads' HO_305000.out).2.2 | (with_reducible refine Kd.C_alloc ?_ _) | (with_reducible refine Kd.C_drewN ?_ _) | (with_reducible refine Kd.C_drew ?_))); (case side2 => exact (Kd.S_reads' HO_305000.out).2.1); rintro e w78 ⟨rfl, hb⟩; refine ⟨_, rfl, ?_⟩; have n0_ := Aside0.mk (Kd.R_below (by (with_reducible repeat (first | apply Kd.R_alloc | apply Kd.R_drewN | apply Kd.R_drew)); exact HO_8.out) hb); have n1_ := Aside0.mk (Kd.S_below (by (with_reducible repeat (first | apply Kd.S_alloc | apply Kd.S_drewN | apply Kd.S_drew)); exact HO_305000.out) hb); have n2_ := Aside0.mk (blk_below (g := gb304) (o := .cells #[.slice Ao11 t301.length co11] 40 (0, 0)) (by (with_reducible repeat (first | refine blk_drewN ?_ _ | refine blk_drew ?_ | refine blk_alloc ?_ _)); exact BK304.out) hb); have n3_ := Aside0.mk (below_step (by repeat (first | (with_reducible first | exact HB.out | apply below_alloc | apply pw_below_drewN | apply below_drew1 | refine below_set ?_ GE304.out) | exact HB.out)) hb); clear HO_8; clear HO_305000; clear BK304; clear HB; have HO_8 := n0_; have HO_305000 := n1_; have BK304 := n2_; have HB := n3_; clear n0_ n1_ n2_ n3_; (try clear hb); (try clear hb2); (try clear hk); (try clear hi)))
                go_ret
                exact ⟨by first | rfl | (simp [errW_none, errW_some] <;> rfl) | (simp [*, errW_none, errW_some] <;> rfl), by repeat (first | (with_reducible first | exact HB.out | apply below_alloc | apply pw_below_drewN | apply below_drew1 | refine below_set ?_ GE304.out) | exact HB.out)⟩
              · rw [if_neg c75] at H
                have c75b0 : (t317 == (-1)) = false := beq_eq_false_iff_ne.mpr c75
                have c75b1 : (t317 != (-1)) = true := bne_iff_ne.mpr c75
                exact absurd ((Option.some.inj H).trans hT.out) (by decide)

/-- THE ONE PURE STATEMENT of laws_FnPlacesOf: yours. -/
def laws_FnPlacesOf.Pure : Prop := ∀ (l0 : List Int), l0.length ≤ maxLen → l0.length * 1 ≤ 140737488351232 → (∀ x ∈ l0, (Lit.int .u8 x).wf = true) → ∃ k, laws_FnPlacesOf.f k l0 = some true
theorem laws_FnPlacesOf.walk (P : laws_FnPlacesOf.Pure) (a0 : Option Addr) (len0 cap0 : Nat) (z0 : List Int) (w : World) (w0 : (a0 = none ∧ len0 = 0 ∧ cap0 = 0 ∧ z0 = []) ∨ ∃ x, a0 = some x ∧ len0 ≤ cap0 ∧ cap0 ≤ maxLen ∧ z0.length = cap0 ∧ (∀ i, i < z0.length → w.cell? (x.add i) = some (.int .u8 (z0.getD i 0))) ∧ ∀ n ∈ z0, (Lit.int .u8 n).wf = true) (y0 : len0 * 1 ≤ 140737488351232) :
    Calls Try.prog 5 #[.slice a0 len0 cap0] w fun e w' => e = .returned (.bool true) ∧ Below w.heap.size w w' := by
  obtain ⟨l0, rfl, hr0, hm0, hw0, hc0⟩ := ReadsInt.ofRowC w0
  obtain ⟨k, h⟩ := P l0 hm0 y0 hw0
  refine (laws_FnPlacesOf.calls k _ _ l0 true ⟨rfl⟩ w (Kd.C_of_reads (d := (0 : Int)) (h1 := fun _ => rfl) hr0) hc0 h).mono ?_
  rintro e w' ⟨rfl, hd⟩
  exact ⟨rfl, hd⟩

end Go.Proofs.Ytcpgpchdplpfiaa.PF

/- Plain facts on rounds, lists and whole numbers, for the pure statements. -/
namespace Go.Proofs.Ytcpgpchdplpfiaa.Pu
set_option linter.unusedVariables false
set_option linter.unusedSimpArgs false
open Go.RowKit Go.Proofs.YtcpgpchdplpfiaaW.PrintWords

theorem w64 {x : Int} (h1 : -9223372036854775808 ≤ x) (h2 : x ≤ 9223372036854775807) : wrap64 x = x := by
  unfold wrap64; omega
theorem wsucc {i n : Nat} (h : i < n) (hn : n ≤ 9223372036854775807) : wrap64 ((i : Int) + 1) = ((i + 1 : Nat) : Int) := by
  rw [w64 (by omega) (by omega)]; rfl
theorem wf_i64 {n : Int} (h : (Lit.int .i64 n).wf = true) : -9223372036854775808 ≤ n ∧ n ≤ 9223372036854775807 := by
  simp only [Lit.wf, Bool.and_eq_true, decide_eq_true_eq] at h
  have h1 : IntKind.min .i64 = -9223372036854775808 := by decide
  have h2 : IntKind.max .i64 = 9223372036854775807 := by decide
  omega

/-- Rounds: what is told, a step on. -/
theorem ev_some {α : Type} {g : Nat → Option α} {r : α} (h : ∀ k, g (k + 1) = some r) : Ev g r := Ev.step h (Ev.now r)
theorem ev_const {α : Type} {o : Option α} {r : α} (h : o = some r) : Ev (fun _ => o) r := ⟨0, fun _ _ => h⟩
theorem ev_bind {α β : Type} {g : Nat → Option α} {f : Nat → α → Option β} {a : α} {r : β} (h : Ev g a) (k : Ev (fun n => f n a) r) : Ev (fun n => (g n).bind (f n)) r := Ev.bind h k
theorem ev_uniq {α : Type} {g : Nat → Option α} {a b : α} (h : Ev g a) (k : Ev g b) : a = b := by
  obtain ⟨K, hK⟩ := h
  obtain ⟨M, hM⟩ := k
  have h1 := hK (max K M) (Nat.le_max_left _ _)
  rw [hM (max K M) (Nat.le_max_right _ _)] at h1
  injection h1 with h1
  exact h1.symm
theorem ev_ext {α : Type} {g f : Nat → Option α} {r : α} (h : ∀ k, g k = f k) (k : Ev f r) : Ev g r := Ev.congr h k

/-- A row that is made and filled, place by place. -/
theorem ev_fill {β : Type} {L : Nat → List β → Int → Option (List β)} {E : Nat → Int → Option β} {n : Nat} {e : Nat → β} (hn : n ≤ 9223372036854775807)
    (hs : ∀ k xs i, L (k + 1) xs i = if i < (n : Int) then (if 0 ≤ i then ((E k i).bind fun b => if i < (xs.length : Int) then L k (xs.set i.toNat b) (wrap64 (i + 1)) else none) else none) else some xs)
    (hE : ∀ i, i < n → Ev (fun k => E k (i : Int)) (e i)) :
    ∀ (d i : Nat) (xs : List β), xs.length = n → i + d = n → Ev (fun k => L k xs (i : Int)) (xs.take i ++ (List.range' i d).map e) := by
  intro d
  induction d with
  | zero =>
    intro i xs hl hi
    refine ev_some fun k => ?_
    rw [hs, if_neg (by omega)]
    simp [List.take_of_length_le (show xs.length ≤ i by omega)]
  | succ d ih =>
    intro i xs hl hi
    refine Ev.step (f := fun k => (E k (i : Int)).bind fun b => L k (xs.set i b) ((i + 1 : Nat) : Int)) (fun k => ?_) ?_
    · rw [hs, if_pos (by omega), if_pos (by omega), wsucc (n := n) (by omega) hn]
      congr 1
      funext b
      rw [if_pos (by omega)]
      rfl
    · refine ev_bind (hE i (by omega)) ?_
      have h := ih (i + 1) (xs.set i (e i)) (by rw [List.length_set]; exact hl) (by omega)
      have e1 : (xs.set i (e i)).take (i + 1) ++ (List.range' (i + 1) d).map e = xs.take i ++ (List.range' i (d + 1)).map e := by
        rw [List.range'_succ, List.map_cons, List.take_succ_eq_append_getElem (by rw [List.length_set]; omega), List.getElem_set_self, List.take_set_of_le (Nat.le_refl _)]
        simp
      rw [e1] at h
      exact h
theorem map_range {α β : Type} (l : List α) (z : α) (g : α → β) : (List.range' 0 l.length).map (fun i => g (l.getD i z)) = l.map g := by
  apply List.ext_getElem
  · simp
  · intro i h1 h2
    simp only [List.length_map] at h2
    simp [List.getD_eq_getElem?_getD, List.getElem?_eq_getElem h2]
theorem ev_fill_all {α β : Type} {L : Nat → List β → Int → Option (List β)} {E : Nat → Int → Option β} {l : List α} {z : α} {g : α → β} {xs : List β} (hn : l.length ≤ 9223372036854775807)
    (hs : ∀ k xs i, L (k + 1) xs i = if i < (l.length : Int) then (if 0 ≤ i then ((E k i).bind fun b => if i < (xs.length : Int) then L k (xs.set i.toNat b) (wrap64 (i + 1)) else none) else none) else some xs)
    (hE : ∀ i, i < l.length → Ev (fun k => E k (i : Int)) (g (l.getD i z))) (hx : xs.length = l.length) : Ev (fun k => L k xs 0) (l.map g) := by
  have h := ev_fill (e := fun i => g (l.getD i z)) hn hs hE l.length 0 xs hx (by omega)
  rw [map_range] at h
  simpa using h

/-- Every place meets a test, tried place by place. -/
theorem ev_all {L E : Nat → Int → Option Bool} {n m : Nat} (hn : n ≤ 9223372036854775807) (hnm : n ≤ m)
    (hs : ∀ k i, L (k + 1) i = if i < (n : Int) then (if 0 ≤ i then (if i < (m : Int) then ((E k i).bind fun b => if b = true then L k (wrap64 (i + 1)) else some false) else none) else none) else some true)
    (hE : ∀ i, i < n → Ev (fun k => E k (i : Int)) true) : ∀ (d i : Nat), i + d = n → Ev (fun k => L k (i : Int)) true := by
  intro d
  induction d with
  | zero => intro i hi; exact ev_some fun k => by rw [hs, if_neg (by omega)]
  | succ d ih =>
    intro i hi
    refine Ev.step (f := fun k => (E k (i : Int)).bind fun b => if b = true then L k ((i + 1 : Nat) : Int) else some false) (fun k => ?_) (ev_bind (hE i (by omega)) (by simpa using ih (i + 1) (by omega)))
    rw [hs, if_pos (by omega), if_pos (by omega), if_pos (by omega), wsucc (n := n) (by omega) hn]

/-- What is left of a number, place by place, as long as it is not below 0. -/
theorem ev_size {L E : Nat → Int → Int → Option Int} {n : Nat} {P : Nat → Prop} (hn : n ≤ 9223372036854775807)
    (hs : ∀ k a i, L (k + 1) a i = if i < (n : Int) then (if 0 ≤ i then ((E k i a).bind fun t => if t < 0 then some (-1) else L k t (wrap64 (i + 1))) else none) else some a)
    (hE : ∀ i a, i < n → 0 ≤ a → a ≤ 1048576 → ∃ t, Ev (fun k => E k (i : Int) a) t ∧ t ≤ a ∧ (0 ≤ t → P i)) :
    ∀ (d i : Nat) (a : Int), i + d = n → 0 ≤ a → a ≤ 1048576 → ∃ r, Ev (fun k => L k a (i : Int)) r ∧ r ≤ a ∧ (0 ≤ r → ∀ m, i ≤ m → m < n → P m) := by
  intro d
  induction d with
  | zero => intro i a hi h0 h1; exact ⟨a, ev_some fun k => by rw [hs, if_neg (by omega)], Int.le_refl _, fun _ m h2 h3 => by omega⟩
  | succ d ih =>
    intro i a hi h0 h1
    obtain ⟨t, ht, hta, hp⟩ := hE i a (by omega) h0 h1
    have hst : ∀ k, L (k + 1) a (i : Int) = (E k (i : Int) a).bind fun t => if t < 0 then some (-1) else L k t ((i + 1 : Nat) : Int) := fun k => by
      rw [hs, if_pos (by omega), if_pos (by omega), wsucc (n := n) (by omega) hn]
    by_cases hneg : t < 0
    · exact ⟨-1, Ev.step hst (ev_bind ht (by simp only [if_pos hneg]; exact Ev.now _)), by omega, fun h => by omega⟩
    · obtain ⟨r, hr, hra, hq⟩ := ih (i + 1) t (by omega) (by omega) (by omega)
      refine ⟨r, Ev.step hst (ev_bind ht (by simp only [if_neg hneg]; exact hr)), by omega, fun h0r m h2 h3 => ?_⟩
      by_cases e : m = i
      · subst e; exact hp (by omega)
      · exact hq h0r m (by omega) h3
end Go.Proofs.Ytcpgpchdplpfiaa.Pu

/- More plain facts on rounds: tests in a row, folds, searches. -/
namespace Go.Proofs.Ytcpgpchdplpfiaa.Pu
set_option linter.unusedVariables false
set_option linter.unusedSimpArgs false
open Go.RowKit Go.Proofs.YtcpgpchdplpfiaaW.PrintWords

/-- Tests in a row, one a round; then what comes. -/
theorem ev_scan {L : Nat → Int → Option Bool} {g : Nat → Option Bool} {n : Nat} {T : Nat → Bool} {r : Bool}
    (hs : ∀ k i, i < n → L (k + 1) (i : Int) = if T i = true then L k ((i + 1 : Nat) : Int) else some false) (he : ∀ k, L (k + 1) (n : Int) = g k) (hr : Ev g r) :
    ∀ (d i : Nat), i + d = n → Ev (fun k => L k (i : Int)) ((List.range' i d).all T && r) := by
  intro d
  induction d with
  | zero =>
    intro i hi
    obtain rfl : i = n := by omega
    exact Ev.step he hr
  | succ d ih =>
    intro i hi
    rw [List.range'_succ, List.all_cons]
    by_cases h : T i = true
    · rw [h, Bool.true_and]
      exact Ev.step (fun k => by rw [hs k i (by omega), if_pos h]) (ih (i + 1) (by omega))
    · rw [Bool.eq_false_iff.mpr h, Bool.false_and, Bool.false_and]
      exact ev_some fun k => by rw [hs k i (by omega), if_neg h]
/-- Tests in a row, each of many rounds; then what comes. -/
theorem ev_outer {L : Nat → Int → Option Bool} {n : Nat} {T : Nat → Bool} {r0 : Bool}
    (hs : ∀ i r, i < n → Ev (fun k => L k ((i + 1 : Nat) : Int)) r → Ev (fun k => L k (i : Int)) (T i && r)) (he : Ev (fun k => L k (n : Int)) r0) :
    ∀ (d i : Nat), i + d = n → Ev (fun k => L k (i : Int)) ((List.range' i d).all T && r0) := by
  intro d
  induction d with
  | zero =>
    intro i hi
    obtain rfl : i = n := by omega
    exact he
  | succ d ih =>
    intro i hi
    rw [List.range'_succ, List.all_cons, Bool.and_assoc]
    exact hs i _ (by omega) (ih (i + 1) (by omega))
/-- A state that is carried along; then what comes. -/
theorem ev_fold {σ ρ : Type} {L : Nat → σ → Int → Option ρ} {n : Nat} {F : σ → Nat → σ} {fin : σ → ρ} (Inv : Nat → σ → Prop)
    (hs : ∀ s i, i < n → Inv i s → ∀ r, Ev (fun k => L k (F s i) ((i + 1 : Nat) : Int)) r → Ev (fun k => L k s (i : Int)) r) (hi : ∀ s i, i < n → Inv i s → Inv (i + 1) (F s i))
    (he : ∀ s, Inv n s → Ev (fun k => L k s (n : Int)) (fin s)) : ∀ (d i : Nat) (s : σ), i + d = n → Inv i s → Ev (fun k => L k s (i : Int)) (fin ((List.range' i d).foldl F s)) := by
  intro d
  induction d with
  | zero =>
    intro i s h hv
    obtain rfl : i = n := by omega
    exact he s hv
  | succ d ih =>
    intro i s h hv
    rw [List.range'_succ, List.foldl_cons]
    exact hs s i (by omega) hv _ (ih (i + 1) (F s i) (by omega) (hi s i (by omega) hv))
/-- The first place that meets a test, -1 without one. -/
def findI (T : Nat → Bool) : Nat → Nat → Int
  | _, 0 => -1
  | i, d + 1 => if T i = true then (i : Int) else findI T (i + 1) d
theorem ev_find {L : Nat → Int → Option Int} {n : Nat} {T : Nat → Bool}
    (hy : ∀ i, i < n → T i = true → Ev (fun k => L k (i : Int)) (i : Int)) (hn : ∀ i, i < n → T i = false → ∀ r, Ev (fun k => L k ((i + 1 : Nat) : Int)) r → Ev (fun k => L k (i : Int)) r)
    (he : Ev (fun k => L k (n : Int)) (-1)) : ∀ (d i : Nat), i + d = n → Ev (fun k => L k (i : Int)) (findI T i d) := by
  intro d
  induction d with
  | zero =>
    intro i hi
    obtain rfl : i = n := by omega
    exact he
  | succ d ih =>
    intro i hi
    unfold findI
    by_cases h : T i = true
    · rw [if_pos h]; exact hy i (by omega) h
    · rw [if_neg h]; exact hn i (by omega) (Bool.eq_false_iff.mpr h) _ (ih (i + 1) (by omega))
theorem findI_range {T : Nat → Bool} : ∀ (d i : Nat), findI T i d = -1 ∨ ∃ j, i ≤ j ∧ j < i + d ∧ findI T i d = (j : Int) ∧ T j = true
  | 0, i => .inl rfl
  | d + 1, i => by
    unfold findI
    by_cases h : T i = true
    · rw [if_pos h]; exact .inr ⟨i, Nat.le_refl _, by omega, rfl, h⟩
    · rw [if_neg h]
      rcases findI_range d (i + 1) with h1 | ⟨j, h1, h2, h3, h4⟩
      · exact .inl h1
      · exact .inr ⟨j, by omega, by omega, h3, h4⟩
theorem bytes_empty (a : ByteArray) : (a.toList == ([] : List UInt8)) = decide ((a.size : Int) ≤ 0) := by
  rw [ByteArray.toList_eq]
  have h : a.data.toList.length = a.size := by rw [Array.length_toList]; rfl
  cases e : a.data.toList with
  | nil =>
    have h1 : a.size = 0 := by rw [← h, e]; rfl
    rw [decide_eq_true (by omega)]; rfl
  | cons x l =>
    have h1 : a.size = l.length + 1 := by rw [← h, e]; rfl
    rw [decide_eq_false (by omega)]; rfl
theorem getD_mem' {α : Type} {l : List α} {i : Nat} {z : α} (hi : i < l.length) : l.getD i z ∈ l := by
  rw [List.getD_eq_getElem?_getD, List.getElem?_eq_getElem hi]; exact List.getElem_mem hi
end Go.Proofs.Ytcpgpchdplpfiaa.Pu

/- What the functions on flashes answer: sizes, copies, comparison. -/
namespace Go.Proofs.Ytcpgpchdplpfiaa.Pu
set_option linter.unusedVariables false
set_option linter.unusedSimpArgs false
open Go.RowKit Go.Proofs.Ytcpgpchdplpfiaa.PF Go.Proofs.YtcpgpchdplpfiaaW.PrintWords

theorem rdIB_nat (l : List S49) (i : Nat) : rd_T49 l (i : Int) = l.getD i z49 := rfl
theorem rdIL_nat (l : List S103) (i : Nat) : rd_T103 l (i : Int) = l.getD i z103 := rfl

end Go.Proofs.Ytcpgpchdplpfiaa.Pu

/- When a flash is right, as one test; the program's and the reference's FlashOk answer it. -/
namespace Go.Proofs.Ytcpgpchdplpfiaa.Pu
set_option linter.unusedVariables false
set_option linter.unusedSimpArgs false
open Go.RowKit Go.Proofs.Ytcpgpchdplpfiaa.PF Go.Proofs.YtcpgpchdplpfiaaW.PrintWords

theorem inF_eq (a l h : Int) : impl_in.f a l h = some (decide (l ≤ a ∧ a ≤ h)) := by
  unfold impl_in.f
  by_cases h1 : a ≥ l
  · rw [if_pos h1]; congr 1; simp; omega
  · rw [if_neg h1]; congr 1; simp; omega
theorem l01InF_eq (a l h : Int) : spec_l01In.f a l h = some (decide (l ≤ a ∧ a ≤ h)) := by
  unfold spec_l01In.f
  by_cases h1 : a ≥ l
  · rw [if_pos h1]; congr 1; simp; omega
  · rw [if_neg h1]; congr 1; simp; omega

def leafB (x : S103) : Bool := if x.f0 = 0 then decide ((x.f1.size : Int) ≤ 0) else if x.f0 = 1 then decide (1 ≤ (x.f1.size : Int) ∧ (x.f1.size : Int) ≤ 120) else if x.f0 = 2 then decide ((x.f1.size : Int) ≤ 120) else false
/-- The leaf at place i of a block, and the one ahead of it. -/
def stepB (ls : List S103) (i : Nat) : Bool := leafB (ls.getD i z103) && (decide (i = 0) || !decide ((ls.getD (i - 1) z103).f0 = 0) || decide ((ls.getD i z103).f0 = 0))
def blockB (b : S49) : Bool := decide (b.f2.length = 4) && (decide (0 ≤ b.f1 ∧ b.f1 ≤ 1000000000) && (List.range' 0 b.f2.length).all (stepB b.f2))
def flashB (f : List S49) : Bool := (List.range' 0 f.length).all (fun i => blockB (f.getD i z49)) && decide (3 ≤ (f.length : Int) ∧ (f.length : Int) ≤ 10)

theorem sLeaf_eq (x : S103) : spec_l05Leaf.f x.f0 x.f1 = some (leafB x) := by
  unfold spec_l05Leaf.f leafB
  simp only [l01InF_eq, Option.bind_some, bytes_empty]
  repeat' split
  all_goals rfl
theorem iLeaf_eq (x : S103) : impl_leafOk.f x.f0 x.f1 = some (leafB x) := by
  unfold impl_leafOk.f leafB
  simp only [inF_eq, Option.bind_some, bytes_empty]
  repeat' split
  all_goals rfl
theorem sFlash_step (k : Nat) (a : Int) (f : List S49) (b : Bool) (n : Int) (ls : List S103) (i : Nat) (hi : i < ls.length) (hn : ls.length ≤ 1048576) :
    spec_FlashOk.l1 (k + 1) a (i : Int) f b n ls = if stepB ls i = true then spec_FlashOk.l1 k a ((i + 1 : Nat) : Int) f b n ls else some false := by
  simp only [spec_FlashOk.l1]
  rw [if_pos (by omega), if_pos (by omega), rdIL_nat, sLeaf_eq, wsucc (n := ls.length) hi (by omega), w64 (x := (i : Int) - 1) (by omega) (by omega)]
  simp only [Option.bind_some]
  unfold stepB
  by_cases h : leafB (ls.getD i z103) = true
  · rw [if_pos h, h, Bool.true_and]
    by_cases h0 : i = 0
    · subst h0
      simp
    · obtain ⟨j, rfl⟩ : ∃ j, i = j + 1 := ⟨i - 1, by omega⟩
      rw [if_pos (by omega), if_pos (by omega), if_pos (by omega), show ((j + 1 : Nat) : Int) - 1 = (j : Int) by omega, rdIL_nat, show j + 1 - 1 = j by omega]
      generalize (ls.getD j z103).f0 = u
      generalize (ls.getD (j + 1) z103).f0 = v
      by_cases h1 : u = 0 <;> by_cases h2 : v = 0 <;> simp [h1, h2]
  · rw [if_neg h, Bool.eq_false_iff.mpr h, Bool.false_and]
    rfl
theorem iFlash_step (k : Nat) (f : List S49) (a c : Int) (f2 : List S49) (b : Bool) (n : Int) (ls : List S103) (i : Nat) (hi : i < ls.length) (hn : ls.length ≤ 1048576) :
    impl_FlashOk.l1 (k + 1) f a c ls (ls.length : Int) (i : Int) f2 b n ls = if stepB ls i = true then impl_FlashOk.l1 k f a c ls (ls.length : Int) ((i + 1 : Nat) : Int) f2 b n ls else some false := by
  simp only [impl_FlashOk.l1]
  rw [if_pos (by omega), if_pos (by omega), if_pos (by omega), rdIL_nat, iLeaf_eq, wsucc (n := ls.length) hi (by omega), w64 (x := (i : Int) - 1) (by omega) (by omega)]
  simp only [Option.bind_some]
  unfold stepB
  by_cases h : leafB (ls.getD i z103) = true
  · rw [if_pos h, h, Bool.true_and]
    by_cases h0 : i = 0
    · subst h0
      simp
    · obtain ⟨j, rfl⟩ : ∃ j, i = j + 1 := ⟨i - 1, by omega⟩
      rw [if_pos (by omega), if_pos (by omega), if_pos (by omega), show ((j + 1 : Nat) : Int) - 1 = (j : Int) by omega, rdIL_nat, show j + 1 - 1 = j by omega]
      generalize (ls.getD j z103).f0 = u
      generalize (ls.getD (j + 1) z103).f0 = v
      by_cases h1 : u = 0 <;> by_cases h2 : v = 0 <;> simp [h1, h2]
  · rw [if_neg h, Bool.eq_false_iff.mpr h, Bool.false_and]
    rfl
theorem sFlashOk_ev (f : List S49) (hn : f.length ≤ 1048576) (hk : ∀ x ∈ f, x.f2.length ≤ 1048576) : Ev (fun k => spec_FlashOk.f k f) (flashB f) := by
  refine ev_outer (L := fun k i => spec_FlashOk.l0 k i f) (n := f.length) (T := fun i => blockB (f.getD i z49)) (fun i r hi hr => ?_) (ev_some fun k => by simp only [spec_FlashOk.l0]; rw [if_neg (by omega), l01InF_eq]; rfl) f.length 0 (by omega)
  have hb := hk _ (getD_mem' (z := z49) hi)
  unfold blockB
  by_cases h4 : (f.getD i z49).f2.length = 4
  · rw [decide_eq_true h4, Bool.true_and]
    by_cases hw : 0 ≤ (f.getD i z49).f1 ∧ (f.getD i z49).f1 ≤ 1000000000
    · rw [decide_eq_true hw, Bool.true_and]
      have h := ev_scan (L := fun k j => spec_FlashOk.l1 k i j f (f.getD i z49).f0 (f.getD i z49).f1 (f.getD i z49).f2) (n := (f.getD i z49).f2.length) (T := stepB (f.getD i z49).f2) (fun k j hj => sFlash_step k i f _ _ _ j hj hb)
        (g := fun k => spec_FlashOk.l0 k ((i + 1 : Nat) : Int) f) (fun k => by simp only [spec_FlashOk.l1]; rw [if_neg (by omega), wsucc (n := f.length) hi (by omega)]) hr _ 0 (Nat.zero_add _)
      refine Ev.step (f := fun k => spec_FlashOk.j1 k i false f (f.getD i z49).f0 (f.getD i z49).f1 (f.getD i z49).f2) (fun k => ?_) (Ev.step (fun k => ?_) h)
      · simp only [spec_FlashOk.l0]
        rw [if_pos (by omega), if_pos (by omega), rdIB_nat, if_pos (by omega), l01InF_eq, decide_eq_true hw]
        rfl
      · simp only [spec_FlashOk.j1]
        rfl
    · rw [decide_eq_false hw, Bool.false_and, Bool.false_and]
      refine Ev.step (f := fun k => spec_FlashOk.j1 k i true f (f.getD i z49).f0 (f.getD i z49).f1 (f.getD i z49).f2) (fun k => ?_) (ev_some fun k => by simp [spec_FlashOk.j1])
      simp only [spec_FlashOk.l0]
      rw [if_pos (by omega), if_pos (by omega), rdIB_nat, if_pos (by omega), l01InF_eq, decide_eq_false hw]
      rfl
  · rw [decide_eq_false h4, Bool.false_and, Bool.false_and]
    refine Ev.step (f := fun k => spec_FlashOk.j1 k i true f (f.getD i z49).f0 (f.getD i z49).f1 (f.getD i z49).f2) (fun k => ?_) (ev_some fun k => by simp [spec_FlashOk.j1])
    simp only [spec_FlashOk.l0]
    rw [if_pos (by omega), if_pos (by omega), rdIB_nat, if_neg (by omega)]
theorem iFlashOk_ev (f : List S49) (hn : f.length ≤ 1048576) (hk : ∀ x ∈ f, x.f2.length ≤ 1048576) : Ev (fun k => impl_FlashOk.f k f) (flashB f) := by
  refine ev_outer (L := fun k i => impl_FlashOk.l0 k f (f.length : Int) i f) (n := f.length) (T := fun i => blockB (f.getD i z49)) (fun i r hi hr => ?_) (ev_some fun k => by simp only [impl_FlashOk.l0]; rw [if_neg (by omega), inF_eq]; rfl) f.length 0 (by omega)
  have hb := hk _ (getD_mem' (z := z49) hi)
  unfold blockB
  by_cases h4 : (f.getD i z49).f2.length = 4
  · rw [decide_eq_true h4, Bool.true_and]
    by_cases hw : 0 ≤ (f.getD i z49).f1 ∧ (f.getD i z49).f1 ≤ 1000000000
    · rw [decide_eq_true hw, Bool.true_and]
      have h := ev_scan (L := fun k j => impl_FlashOk.l1 k f (f.length : Int) i (f.getD i z49).f2 ((f.getD i z49).f2.length : Int) j f (f.getD i z49).f0 (f.getD i z49).f1 (f.getD i z49).f2) (n := (f.getD i z49).f2.length) (T := stepB (f.getD i z49).f2) (fun k j hj => iFlash_step k f _ _ f _ _ _ j hj hb)
        (g := fun k => impl_FlashOk.l0 k f (f.length : Int) ((i + 1 : Nat) : Int) f) (fun k => by simp only [impl_FlashOk.l1]; rw [if_neg (by omega), wsucc (n := f.length) hi (by omega)]) hr _ 0 (Nat.zero_add _)
      refine Ev.step (f := fun k => impl_FlashOk.j1 k f (f.length : Int) i false f (f.getD i z49).f0 (f.getD i z49).f1 (f.getD i z49).f2) (fun k => ?_) (Ev.step (fun k => ?_) h)
      · simp only [impl_FlashOk.l0]
        rw [if_pos (by omega), if_pos (by omega), if_pos (by omega), rdIB_nat, if_pos (by omega), inF_eq, decide_eq_true hw]
        rfl
      · simp only [impl_FlashOk.j1]
        rfl
    · rw [decide_eq_false hw, Bool.false_and, Bool.false_and]
      refine Ev.step (f := fun k => impl_FlashOk.j1 k f (f.length : Int) i true f (f.getD i z49).f0 (f.getD i z49).f1 (f.getD i z49).f2) (fun k => ?_) (ev_some fun k => by simp [impl_FlashOk.j1])
      simp only [impl_FlashOk.l0]
      rw [if_pos (by omega), if_pos (by omega), if_pos (by omega), rdIB_nat, if_pos (by omega), inF_eq, decide_eq_false hw]
      rfl
  · rw [decide_eq_false h4, Bool.false_and, Bool.false_and]
    refine Ev.step (f := fun k => impl_FlashOk.j1 k f (f.length : Int) i true f (f.getD i z49).f0 (f.getD i z49).f1 (f.getD i z49).f2) (fun k => ?_) (ev_some fun k => by simp [impl_FlashOk.j1])
    simp only [impl_FlashOk.l0]
    rw [if_pos (by omega), if_pos (by omega), if_pos (by omega), rdIB_nat, if_neg (by omega)]
end Go.Proofs.Ytcpgpchdplpfiaa.Pu

/- The next blank leaf of a block; the program's and the reference's NextBlank tell it. -/
namespace Go.Proofs.Ytcpgpchdplpfiaa.Pu
set_option linter.unusedVariables false
set_option linter.unusedSimpArgs false
open Go.RowKit Go.Proofs.Ytcpgpchdplpfiaa.PF Go.Proofs.YtcpgpchdplpfiaaW.PrintWords

def blankL (x : S103) : Bool := decide (x.f0 = 0)
def nextB (ls : List S103) : Int := let r := findI (fun i => blankL (ls.getD i z103)) 0 ls.length; if r = -1 then 4 else r
theorem iNext_ev (b : Bool) (n : Int) (ls : List S103) (hn : ls.length ≤ 1048576) : Ev (fun k => impl_NextBlank.f k b n ls) (nextB ls) := by
  have main : ∀ (d i : Nat), i + d = ls.length → Ev (fun k => impl_NextBlank.l0 k ls (ls.length : Int) (i : Int)) (if findI (fun i => blankL (ls.getD i z103)) i d = -1 then 4 else findI (fun i => blankL (ls.getD i z103)) i d) := by
    intro d
    induction d with
    | zero => intro i hi; exact ev_some fun k => by simp only [impl_NextBlank.l0]; rw [if_neg (by omega)]; rfl
    | succ d ih =>
      intro i hi
      unfold findI
      by_cases h : (ls.getD i z103).f0 = 0
      · rw [if_pos (show blankL (ls.getD i z103) = true from decide_eq_true h), if_neg (by omega)]
        refine ev_some fun k => ?_
        simp only [impl_NextBlank.l0]
        rw [if_pos (by omega), if_pos (by omega), if_pos (by omega), rdIL_nat, if_pos h]
      · rw [if_neg (show ¬ blankL (ls.getD i z103) = true by unfold blankL; rw [decide_eq_false h]; decide)]
        refine Ev.step (fun k => ?_) (ih (i + 1) (by omega))
        simp only [impl_NextBlank.l0]
        rw [if_pos (by omega), if_pos (by omega), if_pos (by omega), rdIL_nat, if_neg h, wsucc (n := ls.length) (by omega) (by omega)]
  exact main ls.length 0 (by omega)
theorem sNext_ev (b : Bool) (n : Int) (ls : List S103) (hn : ls.length ≤ 1048576) : Ev (fun k => spec_NextBlank.f k b n ls) (nextB ls) := by
  have main : ∀ (d i : Nat), i + d = ls.length → Ev (fun k => spec_NextBlank.l0 k (i : Int) b n ls) (if findI (fun i => blankL (ls.getD i z103)) i d = -1 then 4 else findI (fun i => blankL (ls.getD i z103)) i d) := by
    intro d
    induction d with
    | zero => intro i hi; exact ev_some fun k => by simp only [spec_NextBlank.l0]; rw [if_neg (by omega)]; rfl
    | succ d ih =>
      intro i hi
      unfold findI
      by_cases h : (ls.getD i z103).f0 = 0
      · rw [if_pos (show blankL (ls.getD i z103) = true from decide_eq_true h), if_neg (by omega)]
        refine ev_some fun k => ?_
        simp only [spec_NextBlank.l0]
        rw [if_pos (by omega), if_pos (by omega), rdIL_nat, if_pos h]
      · rw [if_neg (show ¬ blankL (ls.getD i z103) = true by unfold blankL; rw [decide_eq_false h]; decide)]
        refine Ev.step (fun k => ?_) (ih (i + 1) (by omega))
        simp only [spec_NextBlank.l0]
        rw [if_pos (by omega), if_pos (by omega), rdIL_nat, if_neg h, wsucc (n := ls.length) (by omega) (by omega)]
  exact main ls.length 0 (by omega)
end Go.Proofs.Ytcpgpchdplpfiaa.Pu

/- Where to write next on a flash, as plain functions; the program's and the reference's answer them. -/
namespace Go.Proofs.Ytcpgpchdplpfiaa.Pu
set_option linter.unusedVariables false
set_option linter.unusedSimpArgs false
open Go.RowKit Go.Proofs.Ytcpgpchdplpfiaa.PF Go.Proofs.YtcpgpchdplpfiaaW.PrintWords

def blanksN (ls : List S103) : Nat := (ls.filter blankL).length
def openT (f : List S49) (i : Nat) : Bool := !(f.getD i z49).f0 && (decide (0 < blanksN (f.getD i z49).f2) && decide (blanksN (f.getD i z49).f2 < (f.getD i z49).f2.length))
def openB (f : List S49) : Int := findI (openT f) 0 f.length
def freeT (f : List S49) (i : Nat) : Bool := !(f.getD i z49).f0 && (f.getD i z49).f2.all blankL
def freeL (f : List S49) : List Int := (List.range' 0 f.length).foldl (fun s i => if freeT f i = true then s ++ [(i : Int)] else s) []
def wearAt (f : List S49) (i : Int) : Int := (f.getD i.toNat z49).f1
def bestOf (f : List S49) (b : Int) (l : List Int) : Int := l.foldl (fun b i => if wearAt f i < wearAt f b then i else b) b
def placeR (f : List S49) : Int × Int × Bool :=
  if flashB f = true then (if 0 ≤ openB f then (openB f, nextB (f.getD (openB f).toNat z49).f2, true) else match freeL f with | [] => (0, 0, false) | b :: l => (bestOf f b l, 0, true)) else (0, 0, false)

theorem blanksN_le (ls : List S103) : blanksN ls ≤ ls.length := List.length_filter_le _ _
theorem take_succ' {α : Type} {l : List α} {i : Nat} (z : α) (h : i < l.length) : l.take (i + 1) = l.take i ++ [l.getD i z] := by
  rw [List.take_succ_eq_append_getElem h, List.getD_eq_getElem?_getD, List.getElem?_eq_getElem h]; rfl
theorem filter_succ {α : Type} {l : List α} {i : Nat} (z : α) (p : α → Bool) (h : i < l.length) : ((l.take (i + 1)).filter p).length = ((l.take i).filter p).length + if p (l.getD i z) = true then 1 else 0 := by
  rw [take_succ' z h, List.filter_append, List.length_append]
  generalize l.getD i z = y
  by_cases hp : p y = true <;> simp [List.filter_cons, hp]
theorem iBlanks_ev (b : Bool) (n : Int) (ls : List S103) (hn : ls.length ≤ 1048576) : Ev (fun k => impl_blanks.f k b n ls) (blanksN ls : Int) := by
  have main : ∀ (d i : Nat), i + d = ls.length → Ev (fun k => impl_blanks.l0 k (((ls.take i).filter blankL).length : Int) ls (ls.length : Int) (i : Int)) (blanksN ls : Int) := by
    intro d
    induction d with
    | zero =>
      intro i hi
      refine ev_some fun k => ?_
      simp only [impl_blanks.l0]
      rw [if_neg (by omega), List.take_of_length_le (by omega)]
      rfl
    | succ d ih =>
      intro i hi
      refine Ev.step (fun k => ?_) (ih (i + 1) (by omega))
      have hle : ((ls.take i).filter blankL).length ≤ i := Nat.le_trans (List.length_filter_le _ _) (by rw [List.length_take]; omega)
      rw [filter_succ z103 blankL (by omega)]
      simp only [impl_blanks.l0]
      rw [if_pos (by omega), if_pos (by omega), if_pos (by omega), rdIL_nat, wsucc (n := ls.length) (by omega) (by omega), w64 (by omega) (by omega)]
      unfold blankL
      by_cases h : (ls.getD i z103).f0 = 0
      · rw [if_pos h, if_pos (decide_eq_true h)]; rfl
      · rw [if_neg h, if_neg (by rw [decide_eq_false h]; decide)]; rfl
  exact main ls.length 0 (by omega)
theorem iOpen_ev (f : List S49) (hn : f.length ≤ 1048576) (hk : ∀ x ∈ f, x.f2.length ≤ 1048576) : Ev (fun k => impl_OpenBlock.f k f) (openB f) := by
  have st : ∀ i k, i < f.length → impl_OpenBlock.l0 (k + 1) f (f.length : Int) (i : Int) = (impl_blanks.f k (f.getD i z49).f0 (f.getD i z49).f1 (f.getD i z49).f2).bind fun t => if (f.getD i z49).f0 = true then impl_OpenBlock.l0 k f (f.length : Int) ((i + 1 : Nat) : Int) else if t > 0 then (if t < ((f.getD i z49).f2.length : Int) then some (i : Int) else impl_OpenBlock.l0 k f (f.length : Int) ((i + 1 : Nat) : Int)) else impl_OpenBlock.l0 k f (f.length : Int) ((i + 1 : Nat) : Int) := by
    intro i k hi
    simp only [impl_OpenBlock.l0]
    rw [if_pos (by omega), if_pos (by omega), if_pos (by omega), rdIB_nat, wsucc (n := f.length) hi (by omega)]
  refine ev_find (L := fun k i => impl_OpenBlock.l0 k f (f.length : Int) i) (n := f.length) (T := openT f) (fun i hi ht => ?_) (fun i hi ht r hr => ?_) (ev_some fun k => by simp only [impl_OpenBlock.l0]; rw [if_neg (by omega)]) f.length 0 (by omega)
  · refine Ev.step (fun k => st i k hi) (ev_bind (iBlanks_ev _ _ _ (hk _ (getD_mem' hi))) ?_)
    unfold openT at ht
    simp only [Bool.and_eq_true, Bool.not_eq_true', decide_eq_true_eq] at ht
    simp only [ht.1, Bool.false_eq_true, if_false, if_pos (show ((blanksN (f.getD i z49).f2 : Nat) : Int) > 0 by omega), if_pos (show ((blanksN (f.getD i z49).f2 : Nat) : Int) < ((f.getD i z49).f2.length : Int) by omega)]
    exact Ev.now _
  · refine Ev.step (fun k => st i k hi) (ev_bind (iBlanks_ev _ _ _ (hk _ (getD_mem' hi))) ?_)
    unfold openT at ht
    simp only [Bool.and_eq_false_iff, Bool.not_eq_false', decide_eq_false_iff_not] at ht
    by_cases hb : (f.getD i z49).f0 = true
    · simp only [if_pos hb]; exact hr
    · simp only [if_neg hb]
      by_cases h1 : ((blanksN (f.getD i z49).f2 : Nat) : Int) > 0
      · simp only [if_pos h1]
        by_cases h2 : ((blanksN (f.getD i z49).f2 : Nat) : Int) < ((f.getD i z49).f2.length : Int)
        · exfalso
          rcases ht with h3 | h3 | h3
          · exact hb h3
          · omega
          · omega
        · simp only [if_neg h2]; exact hr
      · simp only [if_neg h1]; exact hr
theorem filter_split {α : Type} (p : α → Bool) : ∀ l : List α, (l.filter p).length + (l.filter fun x => !p x).length = l.length
  | [] => rfl
  | x :: l => by
    have := filter_split p l
    by_cases h : p x = true <;> simp [List.filter_cons, h] <;> omega
end Go.Proofs.Ytcpgpchdplpfiaa.Pu

/- The free blocks of a flash and the next place on it; the program's and the reference's FreeBlocks and PlaceOf tell them. -/
namespace Go.Proofs.Ytcpgpchdplpfiaa.Pu
set_option linter.unusedVariables false
set_option linter.unusedSimpArgs false
open Go.RowKit Go.Proofs.Ytcpgpchdplpfiaa.PF Go.Proofs.YtcpgpchdplpfiaaW.PrintWords

theorem all_filter {α : Type} (p : α → Bool) : ∀ l : List α, l.all p = decide ((l.filter p).length = l.length)
  | [] => rfl
  | x :: l => by
    have ih := all_filter p l
    have hle := List.length_filter_le p l
    rw [List.all_cons, List.filter_cons, ih]
    by_cases h : p x = true
    · simp [h]
    · have h' : p x = false := Bool.eq_false_iff.mpr h
      simp only [h', Bool.false_and, Bool.false_eq_true, if_false, List.length_cons]
      exact (decide_eq_false (by omega)).symm
def freeF (f : List S49) (s : List Int) (i : Nat) : List Int := if freeT f i = true then s ++ [(i : Int)] else s
def FreeInv (f : List S49) (i : Nat) (s : List Int) : Prop := s.length ≤ i ∧ ∀ x ∈ s, 0 ≤ x ∧ x < (f.length : Int)
theorem freeInv_step {f : List S49} (s : List Int) (i : Nat) (hi : i < f.length) (h : FreeInv f i s) : FreeInv f (i + 1) (freeF f s i) := by
  unfold freeF
  by_cases ht : freeT f i = true
  · rw [if_pos ht]
    refine ⟨by rw [List.length_append]; have := h.1; simp; omega, fun x hx => ?_⟩
    rcases List.mem_append.1 hx with hx | hx
    · exact h.2 x hx
    · rw [List.mem_singleton.1 hx]; omega
  · rw [if_neg ht]; exact ⟨by have := h.1; omega, h.2⟩
theorem freeInv_fold {f : List S49} : ∀ (d i : Nat) (s : List Int), i + d = f.length → FreeInv f i s → FreeInv f f.length ((List.range' i d).foldl (freeF f) s)
  | 0, i, s, hi, h => by obtain rfl : i = f.length := by omega
                         exact h
  | d + 1, i, s, hi, h => by
    rw [List.range'_succ, List.foldl_cons]
    exact freeInv_fold d (i + 1) _ (by omega) (freeInv_step s i (by omega) h)
theorem freeL_eq (f : List S49) : freeL f = (List.range' 0 f.length).foldl (freeF f) [] := rfl
theorem freeL_inv (f : List S49) : FreeInv f f.length (freeL f) := by
  rw [freeL_eq]
  exact freeInv_fold f.length 0 [] (by omega) ⟨by simp, fun x hx => absurd hx (by simp)⟩
theorem iFree_ev (f : List S49) (hn : f.length ≤ 1048576) (hk : ∀ x ∈ f, x.f2.length ≤ 1048576) : Ev (fun k => impl_FreeBlocks.f k f) (freeL f) := by
  rw [freeL_eq]
  refine ev_fold (L := fun k s i => impl_FreeBlocks.l0 k s f (f.length : Int) i) (n := f.length) (F := freeF f) (fin := fun s => s) (FreeInv f) (fun s i hi hv r hr => ?_) (fun s i hi hv => freeInv_step s i hi hv)
    (fun s _ => ev_some fun k => by simp only [impl_FreeBlocks.l0]; rw [if_neg (by omega)]) f.length 0 [] (by omega) ⟨by simp, fun x hx => absurd hx (by simp)⟩
  have hsl : s.length ≤ i := hv.1
  unfold freeF freeT at hr
  rw [all_filter] at hr
  by_cases hb : (f.getD i z49).f0 = true
  · rw [hb] at hr
    simp only [Bool.not_true, Bool.false_and, Bool.false_eq_true, if_false] at hr
    refine Ev.step (fun k => ?_) hr
    simp only [impl_FreeBlocks.l0]
    rw [if_pos (by omega), if_pos (by omega), if_pos (by omega), rdIB_nat, if_pos hb, wsucc (n := f.length) hi (by omega)]
  · have hb' : (f.getD i z49).f0 = false := Bool.eq_false_iff.mpr hb
    rw [hb'] at hr
    simp only [Bool.not_false, Bool.true_and, decide_eq_true_eq] at hr
    refine Ev.step (f := fun k => (impl_blanks.f k (f.getD i z49).f0 (f.getD i z49).f1 (f.getD i z49).f2).bind fun t => if t = ((f.getD i z49).f2.length : Int) then impl_FreeBlocks.l0 k (s ++ [(i : Int)]) f (f.length : Int) ((i + 1 : Nat) : Int) else impl_FreeBlocks.l0 k s f (f.length : Int) ((i + 1 : Nat) : Int)) (fun k => ?_) (ev_bind (iBlanks_ev _ _ _ (hk _ (getD_mem' hi))) ?_)
    · simp only [impl_FreeBlocks.l0]
      rw [if_pos (by omega), if_pos (by omega), if_pos (by omega), rdIB_nat, if_neg hb, wsucc (n := f.length) hi (by omega), if_pos (by omega)]
    · by_cases h : blanksN (f.getD i z49).f2 = (f.getD i z49).f2.length
      · simp only [if_pos (show ((blanksN (f.getD i z49).f2 : Nat) : Int) = ((f.getD i z49).f2.length : Int) by omega)]
        rw [if_pos (show ((f.getD i z49).f2.filter blankL).length = (f.getD i z49).f2.length from h)] at hr
        exact hr
      · simp only [if_neg (show ¬ ((blanksN (f.getD i z49).f2 : Nat) : Int) = ((f.getD i z49).f2.length : Int) by omega)]
        rw [if_neg (show ¬ ((f.getD i z49).f2.filter blankL).length = (f.getD i z49).f2.length from h)] at hr
        exact hr
theorem wear_rd (f : List S49) (i : Int) : (rd_T49 f i).f1 = wearAt f i := rfl
/-- The best of what is left, from place i on. -/
theorem iBest_ev (f : List S49) (l : List Int) (hn : l.length ≤ 1048576) (hv : ∀ x ∈ l, 0 ≤ x ∧ x < (f.length : Int)) : ∀ (d i : Nat) (b : Int), i + d = l.length → 0 ≤ b → b < (f.length : Int) →
    Ev (fun k => impl_PlaceOf.l0 k b l (l.length : Int) (i : Int) f) (bestOf f b (l.drop i), 0, true) := by
  intro d
  induction d with
  | zero =>
    intro i b hi h0 h1
    refine ev_some fun k => ?_
    simp only [impl_PlaceOf.l0]
    rw [if_neg (by omega), if_neg (by omega), List.drop_eq_nil_of_le (by omega)]
    rfl
  | succ d ih =>
    intro i b hi h0 h1
    have hil : i < l.length := by omega
    have e : rd l (i : Int) = l[i] := by show l.getD i 0 = _; rw [List.getD_eq_getElem?_getD, List.getElem?_eq_getElem hil]; rfl
    have hx := hv l[i] (List.getElem_mem hil)
    have st : ∀ k, impl_PlaceOf.l0 (k + 1) b l (l.length : Int) (i : Int) f = impl_PlaceOf.l0 k (if wearAt f l[i] < wearAt f b then l[i] else b) l (l.length : Int) ((i + 1 : Nat) : Int) f := fun k => by
      simp only [impl_PlaceOf.l0]
      rw [if_pos (by omega), if_pos (by omega), if_pos (by omega), if_neg (by omega), e, if_pos hx.1, if_pos hx.2, if_pos h0, if_pos h1, wsucc (n := l.length) hil (by omega), wear_rd, wear_rd]
      by_cases h : wearAt f l[i] < wearAt f b
      · rw [if_pos h, if_pos h]
      · rw [if_neg h, if_neg h]
    refine Ev.step st ?_
    rw [List.drop_eq_getElem_cons hil]
    show Ev _ (bestOf f (if wearAt f l[i] < wearAt f b then l[i] else b) (l.drop (i + 1)), 0, true)
    by_cases h : wearAt f l[i] < wearAt f b
    · rw [if_pos h]; exact ih (i + 1) _ (by omega) hx.1 hx.2
    · rw [if_neg h]; exact ih (i + 1) _ (by omega) h0 h1
theorem open_cases (f : List S49) : openB f = -1 ∨ ∃ j : Nat, j < f.length ∧ openB f = (j : Int) := by
  rcases findI_range (T := openT f) f.length 0 with h | ⟨j, _, h2, h3, _⟩
  · exact .inl h
  · exact .inr ⟨j, by omega, h3⟩
theorem iPlace_ev (f : List S49) (hn : f.length ≤ 1048576) (hk : ∀ x ∈ f, x.f2.length ≤ 1048576) : Ev (fun k => impl_PlaceOf.f k f) (placeR f) := by
  unfold impl_PlaceOf.f placeR
  refine ev_bind (iFlashOk_ev f hn hk) ?_
  by_cases hf : flashB f = true
  · simp only [if_pos hf]
    refine ev_bind (iOpen_ev f hn hk) ?_
    rcases open_cases f with ho | ⟨j, hj, ho⟩
    · have hi := freeL_inv f
      simp only [ho, if_neg (show ¬ ((-1 : Int) ≥ 0) by omega), if_neg (show ¬ (0 ≤ (-1 : Int)) by omega)]
      refine ev_bind (iFree_ev f hn hk) ?_
      cases hl : freeL f with
      | nil => exact ev_some fun k => by simp [impl_PlaceOf.l0]
      | cons b l =>
        rw [hl] at hi
        have hb := hi.2 b (by simp)
        have hlen : l.length + 1 ≤ f.length := by have := hi.1; simpa using this
        refine Ev.step (fun k => ?_) (iBest_ev f (b :: l) (by simp only [List.length_cons]; omega) hi.2 l.length 1 b (by simp only [List.length_cons]; omega) hb.1 hb.2)
        simp only [impl_PlaceOf.l0]
        rw [if_pos (by simp only [List.length_cons]; omega), if_pos (by omega), if_pos (by simp only [List.length_cons]; omega), if_pos (by omega), w64 (by omega) (by omega)]
        rfl
    · simp only [ho, if_pos (show ((j : Int)) ≥ 0 by omega), if_pos (show 0 ≤ (j : Int) by omega), if_pos (show (j : Int) < (f.length : Int) by omega), rdIB_nat, Int.toNat_natCast]
      exact ev_bind (iNext_ev _ _ _ (hk _ (getD_mem' hj))) (Ev.now _)
  · simp only [if_neg hf]
    exact Ev.now _
end Go.Proofs.Ytcpgpchdplpfiaa.Pu

/- Marks: what a row's places are marked with is held there again, and the count goes on alike. -/
namespace Go.Proofs.Ytcpgpchdplpfiaa.Pu
set_option linter.unusedVariables false
set_option linter.unusedSimpArgs false
open Go.RowKit Go.Proofs.Ytcpgpchdplpfiaa.PF Go.Proofs.YtcpgpchdplpfiaaW.PrintWords

theorem getD_set_self {α : Type} {xs : List α} {i : Nat} {x z : α} (h : i < xs.length) : (xs.set i x).getD i z = x := by
  rw [List.getD_eq_getElem?_getD, List.getElem?_set_self h]; rfl
theorem getD_set_ne {α : Type} {xs : List α} {i j : Nat} {x z : α} (h : i ≠ j) : (xs.set i x).getD j z = xs.getD j z := by
  rw [List.getD_eq_getElem?_getD, List.getD_eq_getElem?_getD, List.getElem?_set_ne h]
/-- A row that is marked place by place, and held so. -/
theorem ev_mark {α : Type} (z : α) {L : Nat → List α → Int → Int → Option (Int × List α)} {Hd : Nat → List α → Int → Int → Option Int} (E : Nat → α → Int → Option (Int × α)) (G : Nat → α → Int → Option Int) (c : Int) (P : α → Prop)
    (hL : ∀ k (xs : List α) (a : Int) (i : Nat), i < xs.length → 0 ≤ a → a + c ≤ 4611686018427387904 → L (k + 1) xs a (i : Int) = (E k (xs.getD i z) a).bind fun b => L k (xs.set i b.2) b.1 (wrap64 ((i : Int) + 1)))
    (hL0 : ∀ k (xs : List α) (a : Int) (i : Nat), xs.length ≤ i → L (k + 1) xs a (i : Int) = some (a, xs))
    (hH : ∀ k (xs : List α) (a : Int) (i : Nat), i < xs.length → 0 ≤ a → a + c ≤ 4611686018427387904 → Hd (k + 1) xs a (i : Int) = (G k (xs.getD i z) a).bind fun t => if t < 0 then some (-1) else Hd k xs t (wrap64 ((i : Int) + 1)))
    (hH0 : ∀ k (xs : List α) (a : Int) (i : Nat), xs.length ≤ i → Hd (k + 1) xs a (i : Int) = some a)
    (hc : 0 ≤ c)
    (hE : ∀ x a, P x → 0 ≤ a → a + c ≤ 4611686018427387904 → ∃ a' x', Ev (fun k => E k x a) (a', x') ∧ Ev (fun k => G k x' a) a' ∧ a ≤ a' ∧ a' ≤ a + c) :
    ∀ (d i : Nat) (xs : List α) (a : Int), i + d = xs.length → xs.length ≤ 9223372036854775807 → (∀ j, i ≤ j → j < xs.length → P (xs.getD j z)) → 0 ≤ a → a + d * c ≤ 4611686018427387904 →
      ∃ a' xs', xs'.length = xs.length ∧ (∀ j, j < i → xs'.getD j z = xs.getD j z) ∧ Ev (fun k => L k xs a (i : Int)) (a', xs') ∧ Ev (fun k => Hd k xs' a (i : Int)) a' ∧ a ≤ a' ∧ a' ≤ a + d * c := by
  intro d
  induction d with
  | zero =>
    intro i xs a hi hn hP ha hM
    exact ⟨a, xs, rfl, fun _ _ => rfl, ev_some fun k => hL0 k xs a i (by omega), ev_some fun k => hH0 k xs a i (by omega), Int.le_refl _, by simp⟩
  | succ d ih =>
    intro i xs a hi hn hP ha hM
    have hdc : 0 ≤ (d : Int) * c := Int.mul_nonneg (by omega) hc
    have hds : ((d + 1 : Nat) : Int) * c = (d : Int) * c + c := by rw [Int.natCast_add, Int.add_mul]; simp
    rw [hds] at hM
    obtain ⟨a1, x1, hE1, hG1, h1, h2⟩ := hE (xs.getD i z) a (hP i (Nat.le_refl _) (by omega)) ha (by omega)
    have hlen : (xs.set i x1).length = xs.length := List.length_set
    obtain ⟨a', xs', hl', hb', hL', hH', h3, h4⟩ := ih (i + 1) (xs.set i x1) a1 (by rw [hlen]; omega) (by rw [hlen]; exact hn) (fun j hj hj2 => by
      rw [hlen] at hj2
      rw [getD_set_ne (by omega)]
      exact hP j (by omega) hj2) (by omega) (by omega)
    have hxi : xs'.getD i z = x1 := by rw [hb' i (by omega), getD_set_self (by omega)]
    refine ⟨a', xs', by rw [hl', hlen], fun j hj => by rw [hb' j (by omega), getD_set_ne (by omega)], ?_, ?_, by omega, by rw [hds]; omega⟩
    · refine Ev.step (fun k => hL k xs a i (by omega) ha (by omega)) (ev_bind hE1 ?_)
      simp only [wsucc (n := xs.length) (i := i) (by omega) hn]
      exact hL'
    · refine Ev.step (fun k => hH k xs' a i (by rw [hl', hlen]; omega) ha (by omega)) ?_
      rw [hxi]
      refine ev_bind hG1 ?_
      simp only [if_neg (show ¬ a1 < 0 by omega), wsucc (n := xs.length) (i := i) (by omega) hn]
      exact hH'

/-- A row that is marked place by place. -/
theorem ev_mark1 {α : Type} (z : α) {L : Nat → List α → Int → Int → Option (Int × List α)} (E : Nat → α → Int → Option (Int × α)) (c : Int)
    (hL : ∀ k (xs : List α) (a : Int) (i : Nat), i < xs.length → 0 ≤ a → a + c ≤ 4611686018427387904 → L (k + 1) xs a (i : Int) = (E k (xs.getD i z) a).bind fun b => L k (xs.set i b.2) b.1 (wrap64 ((i : Int) + 1)))
    (hL0 : ∀ k (xs : List α) (a : Int) (i : Nat), xs.length ≤ i → L (k + 1) xs a (i : Int) = some (a, xs)) (hc : 0 ≤ c)
    (hE : ∀ x a, 0 ≤ a → a + c ≤ 4611686018427387904 → ∃ a' x', Ev (fun k => E k x a) (a', x') ∧ a ≤ a' ∧ a' ≤ a + c) :
    ∀ (d i : Nat) (xs : List α) (a : Int), i + d = xs.length → xs.length ≤ 9223372036854775807 → 0 ≤ a → a + d * c ≤ 4611686018427387904 →
      ∃ a' xs', Ev (fun k => L k xs a (i : Int)) (a', xs') ∧ a ≤ a' ∧ a' ≤ a + d * c := by
  intro d
  induction d with
  | zero =>
    intro i xs a hi hn ha hM
    exact ⟨a, xs, ev_some fun k => hL0 k xs a i (by omega), Int.le_refl _, by simp⟩
  | succ d ih =>
    intro i xs a hi hn ha hM
    have hdc : 0 ≤ (d : Int) * c := Int.mul_nonneg (by omega) hc
    have hds : ((d + 1 : Nat) : Int) * c = (d : Int) * c + c := by rw [Int.natCast_add, Int.add_mul]; simp
    rw [hds] at hM
    obtain ⟨a1, x1, hE1, h1, h2⟩ := hE (xs.getD i z) a ha (by omega)
    have hlen : (xs.set i x1).length = xs.length := List.length_set
    obtain ⟨a', xs', hL', h3, h4⟩ := ih (i + 1) (xs.set i x1) a1 (by rw [hlen]; omega) (by rw [hlen]; exact hn) (by omega) (by omega)
    refine ⟨a', xs', ?_, by omega, by rw [hds]; omega⟩
    refine Ev.step (fun k => hL k xs a i (by omega) ha (by omega)) (ev_bind hE1 ?_)
    simp only [wsucc (n := xs.length) (i := i) (by omega) hn]
    exact hL'

end Go.Proofs.Ytcpgpchdplpfiaa.Pu

/- Steps on a flash: a leaf programmed, a block wiped; the program's and the reference's DoStep and DoSteps do them. -/
namespace Go.Proofs.Ytcpgpchdplpfiaa.Pu
set_option linter.unusedVariables false
set_option linter.unusedSimpArgs false
open Go.RowKit Go.Proofs.Ytcpgpchdplpfiaa.PF Go.Proofs.YtcpgpchdplpfiaaW.PrintWords

theorem dropS {α : Type} {l : List α} {i : Nat} (z : α) (h : i < l.length) : l.drop i = l.getD i z :: l.drop (i + 1) := by
  rw [List.drop_eq_getElem_cons h, List.getD_eq_getElem?_getD, List.getElem?_eq_getElem h]; rfl
theorem sCopyF_ev (f : List S49) (hn : f.length ≤ 1048576) (hk : ∀ x ∈ f, x.f2.length ≤ 1048576) : Ev (fun k => spec_l05Copy.f k f) f := by
  have main : ∀ (d i : Nat) (acc : List S49), i + d = f.length → acc.length = i → Ev (fun k => spec_l05Copy.l0 k (i : Int) f acc) (acc ++ f.drop i) := by
    intro d
    induction d with
    | zero => intro i acc hi hl; exact ev_some fun k => by simp only [spec_l05Copy.l0]; rw [if_neg (by omega), List.drop_eq_nil_of_le (by omega), List.append_nil]
    | succ d ih =>
      intro i acc hi hl
      have hm := hk _ (getD_mem' (z := z49) (show i < f.length by omega))
      have h := ih (i + 1) (acc ++ [f.getD i z49]) (by omega) (by rw [List.length_append, hl]; rfl)
      rw [List.append_assoc, List.singleton_append] at h
      rw [dropS z49 (by omega)]
      refine Ev.step (fun k => ?_) h
      simp only [spec_l05Copy.l0]
      rw [if_pos (by omega), if_pos (by omega), rdIB_nat]
      simp only [Option.bind_some]
      rw [if_pos (by simp only [List.length_nil]; omega), if_pos (by omega), wsucc (n := f.length) (by omega) (by omega), List.nil_append]
  exact main f.length 0 [] (by omega) rfl
def useB (f : List S49) (b : Int) : Bool := flashB f && (decide (0 ≤ b ∧ b ≤ (f.length : Int) - 1) && !(f.getD b.toNat z49).f0)
theorem rdB_toNat (f : List S49) (b : Int) : rd_T49 f b = f.getD b.toNat z49 := rfl
def progOk (f : List S49) (b a : Int) (t : ByteArray) : Bool := useB f b && (decide (0 ≤ a ∧ a ≤ 3) && (decide (a = nextB (f.getD b.toNat z49).f2) && decide (1 ≤ (t.size : Int) ∧ (t.size : Int) ≤ 120)))
def progB (f : List S49) (b a : Int) (t : ByteArray) : List S49 := f.set b.toNat ⟨(f.getD b.toNat z49).f0, (f.getD b.toNat z49).f1, (f.getD b.toNat z49).f2.set a.toNat ⟨1, t⟩⟩
def programB (f : List S49) (b a : Int) (t : ByteArray) : List S49 × Bool := if progOk f b a t = true then (progB f b a t, true) else (f, false)
def wipeOk (f : List S49) (b : Int) : Bool := useB f b && !decide ((f.getD b.toNat z49).f1 = 1000000000)
def wipedB (f : List S49) (b : Int) : List S49 := f.set b.toNat ⟨false, wrap64 ((f.getD b.toNat z49).f1 + 1), List.replicate 4 z103⟩
def wipeB (f : List S49) (b : Int) : List S49 × Bool := if wipeOk f b = true then (wipedB f b, true) else (f, false)
theorem use_of {f : List S49} {b : Int} (h : useB f b = true) : flashB f = true ∧ 0 ≤ b ∧ b.toNat < f.length ∧ b < (f.length : Int) ∧ (f.getD b.toNat z49).f0 = false := by
  unfold useB at h
  simp only [Bool.and_eq_true, decide_eq_true_eq, Bool.not_eq_true'] at h
  exact ⟨h.1, h.2.1.1, by omega, by omega, h.2.2⟩
theorem four_of {f : List S49} (h : flashB f = true) {i : Nat} (hi : i < f.length) : (f.getD i z49).f2.length = 4 := by
  unfold flashB at h
  simp only [Bool.and_eq_true, List.all_eq_true] at h
  have := h.1 i (by simp; omega)
  unfold blockB at this
  simp only [Bool.and_eq_true, decide_eq_true_eq] at this
  exact this.1
theorem nextB_range (ls : List S103) : 0 ≤ nextB ls := by
  unfold nextB
  rcases findI_range (T := fun i => blankL (ls.getD i z103)) ls.length 0 with h | ⟨j, _, _, h, _⟩
  · simp only [h]; decide
  · simp only [h]
    rw [if_neg (by omega)]
    omega
theorem sProgram_ev (f : List S49) (b a : Int) (t : ByteArray) (hn : f.length ≤ 1048576) (hk : ∀ x ∈ f, x.f2.length ≤ 1048576) : Ev (fun k => spec_Program.f k f b a t) (programB f b a t) := by
  unfold spec_Program.f programB progOk useB progB
  refine ev_bind (sCopyF_ev f hn hk) (ev_bind (sFlashOk_ev f hn hk) ?_)
  by_cases h : flashB f = true
  · simp only [h, if_true, Bool.true_and]
    unfold spec_l05May.f
    simp only [l01InF_eq, Option.bind_some, w64 (x := (f.length : Int) - 1) (by omega) (by omega), Option.bind_assoc]
    by_cases h2 : 0 ≤ b ∧ b ≤ (f.length : Int) - 1
    · have u3 : b.toNat < f.length := by omega
      have h4 := four_of h u3
      simp only [decide_eq_true h2, if_true, if_pos h2.1, if_pos (show b < (f.length : Int) by omega), Bool.true_and, rdB_toNat]
      by_cases hb : (f.getD b.toNat z49).f0 = true
      · simp only [hb, if_true, Option.bind_some, Bool.false_eq_true, if_false, Bool.not_true, Bool.false_and]
        exact Ev.now _
      · simp only [Bool.eq_false_iff.mpr hb, Bool.false_eq_true, if_false, Bool.not_false, Bool.true_and]
        by_cases ha : a < 4
        · simp only [if_pos ha, Option.bind_assoc]
          refine ev_bind (sNext_ev _ _ _ (by omega)) ?_
          by_cases hx : a = nextB (f.getD b.toNat z49).f2
          · have h0 : 0 ≤ a := by rw [hx]; exact nextB_range _
            simp only [if_pos hx, decide_eq_true hx, decide_eq_true (show 0 ≤ a ∧ a ≤ 3 from ⟨h0, by omega⟩), Bool.true_and, Option.bind_some]
            by_cases ht : 1 ≤ (t.size : Int) ∧ (t.size : Int) ≤ 120
            · simp only [decide_eq_true ht, if_true, if_pos h0, if_pos (show a < ((f.getD b.toNat z49).f2.length : Int) by omega)]
              exact Ev.now _
            · simp only [decide_eq_false ht, Bool.false_eq_true, if_false]
              exact Ev.now _
          · simp only [if_neg hx, decide_eq_false hx, Bool.false_and, Bool.and_false, Bool.false_eq_true, if_false, Option.bind_some]
            exact Ev.now _
        · simp only [if_neg ha, decide_eq_false (show ¬ (0 ≤ a ∧ a ≤ 3) by omega), Bool.false_and, Bool.false_eq_true, if_false, Option.bind_some]
          exact Ev.now _
    · simp only [decide_eq_false h2, Bool.false_and, Bool.false_eq_true, if_false, Option.bind_some]
      exact Ev.now _
  · simp only [Bool.eq_false_iff.mpr h, Bool.false_and, Bool.false_eq_true, if_false]
    exact Ev.now _
theorem sWipe_ev (f : List S49) (b : Int) (hn : f.length ≤ 1048576) (hk : ∀ x ∈ f, x.f2.length ≤ 1048576) : Ev (fun k => spec_Wipe.f k f b) (wipeB f b) := by
  unfold spec_Wipe.f wipeB wipeOk wipedB useB
  refine ev_bind (sCopyF_ev f hn hk) (ev_bind (sFlashOk_ev f hn hk) ?_)
  by_cases h : flashB f = true
  · simp only [h, if_true, Bool.true_and, l01InF_eq, Option.bind_some, w64 (x := (f.length : Int) - 1) (by omega) (by omega)]
    by_cases h2 : 0 ≤ b ∧ b ≤ (f.length : Int) - 1
    · simp only [decide_eq_true h2, if_true, if_pos h2.1, if_pos (show b < (f.length : Int) by omega), Bool.true_and, rdB_toNat, if_pos (show 4 ≤ 11728124029610 by omega)]
      by_cases hb : (f.getD b.toNat z49).f0 = true
      · simp only [hb, if_true, Bool.not_true, Bool.false_and, Bool.false_eq_true, if_false]
        exact Ev.now _
      · simp only [Bool.eq_false_iff.mpr hb, Bool.false_eq_true, if_false, Bool.not_false, Bool.true_and]
        by_cases hw : (f.getD b.toNat z49).f1 = 1000000000
        · simp only [if_pos hw, decide_eq_true hw, Bool.not_true, Bool.false_eq_true, if_false]
          exact Ev.now _
        · simp only [if_neg hw, decide_eq_false hw, Bool.not_false, if_true]
          exact Ev.now _
    · simp only [decide_eq_false h2, Bool.false_and, Bool.false_eq_true, if_false]
      exact Ev.now _
  · simp only [Bool.eq_false_iff.mpr h, Bool.false_and, Bool.false_eq_true, if_false]
    exact Ev.now _
/-- A step. -/
def doB (f : List S49) (kd b a : Int) (t : ByteArray) : List S49 × Bool := if kd = 1 then programB f b a t else if kd = 2 then wipeB f b else (f, false)
theorem doB_le {f : List S49} (kd b a : Int) (t : ByteArray) (hn : f.length ≤ 1048576) (hk : ∀ x ∈ f, x.f2.length ≤ 1048576) : (doB f kd b a t).1.length ≤ 1048576 ∧ ∀ x ∈ (doB f kd b a t).1, x.f2.length ≤ 1048576 := by
  have hset : ∀ (i : Nat) (x : S49), x.f2.length ≤ 1048576 → (f.set i x).length ≤ 1048576 ∧ ∀ y ∈ f.set i x, y.f2.length ≤ 1048576 := fun i x hx => ⟨by rw [List.length_set]; exact hn, fun y hy => by
    rcases List.mem_or_eq_of_mem_set hy with h | h
    · exact hk y h
    · rw [h]; exact hx⟩
  have hz : ∀ i, (f.getD i z49).f2.length ≤ 1048576 := fun i => by
    by_cases hi : i < f.length
    · exact hk _ (getD_mem' hi)
    · rw [List.getD_eq_getElem?_getD, List.getElem?_eq_none (by omega)]; exact Nat.zero_le _
  unfold doB programB wipeB progB wipedB
  split
  · split
    · exact hset _ _ (by rw [List.length_set]; exact hz _)
    · exact ⟨hn, hk⟩
  · split
    · split
      · exact hset _ _ (by simp)
      · exact ⟨hn, hk⟩
    · exact ⟨hn, hk⟩
end Go.Proofs.Ytcpgpchdplpfiaa.Pu

/- Right flashes stay right: what is wiped, written, torn, or marked bad. -/
namespace Go.Proofs.Ytcpgpchdplpfiaa.Pu
set_option linter.unusedVariables false
set_option linter.unusedSimpArgs false
open Go.RowKit Go.Proofs.Ytcpgpchdplpfiaa.PF Go.Proofs.YtcpgpchdplpfiaaW.PrintWords

theorem getD_setB {α : Type} {l : List α} {c : Nat} (i : Nat) (v z : α) (hc : c < l.length) : (l.set c v).getD i z = if c = i then v else l.getD i z := by
  rw [List.getD_eq_getElem?_getD, List.getD_eq_getElem?_getD, List.getElem?_set]
  by_cases h : c = i
  · subst h; simp [hc]
  · rw [if_neg h, if_neg h]
theorem findI_first {T : Nat → Bool} : ∀ (d i : Nat) {j : Nat}, findI T i d = (j : Int) → ∀ m, i ≤ m → m < j → T m = false
  | 0, i, j, h, m, h1, h2 => by unfold findI at h; omega
  | d + 1, i, j, h, m, h1, h2 => by
    unfold findI at h
    by_cases ht : T i = true
    · rw [if_pos ht] at h; omega
    · rw [if_neg ht] at h
      by_cases e : m = i
      · subst e; exact Bool.eq_false_iff.mpr ht
      · exact findI_first d (i + 1) h m (by omega) h2
theorem findI_none {T : Nat → Bool} : ∀ (d i : Nat), findI T i d = -1 → ∀ m, i ≤ m → m < i + d → T m = false
  | 0, i, h, m, h1, h2 => by omega
  | d + 1, i, h, m, h1, h2 => by
    unfold findI at h
    by_cases ht : T i = true
    · rw [if_pos ht] at h; omega
    · rw [if_neg ht] at h
      by_cases e : m = i
      · subst e; exact Bool.eq_false_iff.mpr ht
      · exact findI_none d (i + 1) h m (by omega) (by omega)
/-- The next blank leaf: none, or the first one. -/
theorem next_spec (ls : List S103) : (nextB ls = 4 ∧ ∀ i, i < ls.length → blankL (ls.getD i z103) = false) ∨ ∃ t : Nat, t < ls.length ∧ nextB ls = (t : Int) ∧ blankL (ls.getD t z103) = true ∧ ∀ i, i < t → blankL (ls.getD i z103) = false := by
  unfold nextB
  rcases findI_range (T := fun i => blankL (ls.getD i z103)) ls.length 0 with h | ⟨j, _, h2, h3, h4⟩
  · left
    simp only [h, if_true]
    exact ⟨trivial, fun i hi => findI_none _ _ h i (Nat.zero_le _) (by omega)⟩
  · right
    simp only [h3, if_neg (show ¬ (j : Int) = -1 by omega)]
    exact ⟨j, by omega, rfl, h4, fun i hi => findI_first _ _ h3 i (Nat.zero_le _) hi⟩
theorem block_iff {b : S49} : blockB b = true ↔ b.f2.length = 4 ∧ (0 ≤ b.f1 ∧ b.f1 ≤ 1000000000) ∧ ∀ i, i < 4 → stepB b.f2 i = true := by
  unfold blockB
  rw [Bool.and_eq_true, Bool.and_eq_true, decide_eq_true_eq, decide_eq_true_eq, List.all_eq_true]
  constructor
  · rintro ⟨h1, h2, h3⟩
    exact ⟨h1, h2, fun i hi => h3 i (by simp; omega)⟩
  · rintro ⟨h1, h2, h3⟩
    exact ⟨h1, h2, fun i hi => h3 i (by simp at hi; omega)⟩
theorem flash_iff {f : List S49} : flashB f = true ↔ (∀ i, i < f.length → blockB (f.getD i z49) = true) ∧ 3 ≤ f.length ∧ f.length ≤ 10 := by
  unfold flashB
  rw [Bool.and_eq_true, decide_eq_true_eq, List.all_eq_true]
  constructor
  · rintro ⟨h1, h2, h3⟩
    exact ⟨fun i hi => h1 i (by simp; omega), by omega, by omega⟩
  · rintro ⟨h1, h2, h3⟩
    exact ⟨fun i hi => h1 i (by simp at hi; omega), by omega, by omega⟩
theorem flash_set {f : List S49} {i : Nat} {y : S49} (h : flashB f = true) (hi : i < f.length) (hy : blockB y = true) : flashB (f.set i y) = true := by
  obtain ⟨h1, h2, h3⟩ := flash_iff.1 h
  refine flash_iff.2 ⟨fun j hj => ?_, by rw [List.length_set]; exact h2, by rw [List.length_set]; exact h3⟩
  rw [List.length_set] at hj
  rw [getD_setB _ _ _ hi]
  by_cases e : i = j
  · rw [if_pos e]; exact hy
  · rw [if_neg e]; exact h1 j hj
theorem flash_small {f : List S49} (h : flashB f = true) : f.length ≤ 1048576 ∧ ∀ x ∈ f, x.f2.length ≤ 1048576 := by
  obtain ⟨h1, h2, h3⟩ := flash_iff.1 h
  refine ⟨by omega, fun x hx => ?_⟩
  obtain ⟨i, hi, rfl⟩ := List.getElem_of_mem hx
  have h4 := (block_iff.1 (h1 i hi)).1
  rw [List.getD_eq_getElem?_getD, List.getElem?_eq_getElem hi] at h4
  have h5 : f[i].f2.length = 4 := h4
  omega
/-- A leaf that is no longer blank, at the next blank place. -/
theorem block_fill {b : S49} {t : Nat} {y : S103} (h : blockB b = true) (ht : t < 4) (hp : ∀ i, i < t → blankL (b.f2.getD i z103) = false) (hy : leafB y = true) (hn : ¬ y.f0 = 0) : blockB ⟨b.f0, b.f1, b.f2.set t y⟩ = true := by
  obtain ⟨h1, h2, h3⟩ := block_iff.1 h
  refine block_iff.2 ⟨by show (b.f2.set t y).length = 4; rw [List.length_set]; exact h1, h2, fun i hi => ?_⟩
  have hs := h3 i hi
  show stepB (b.f2.set t y) i = true
  unfold stepB at hs ⊢
  rw [Bool.and_eq_true] at hs ⊢
  rw [getD_setB i _ _ (by omega), getD_setB (i - 1) _ _ (by omega)]
  by_cases e : t = i
  · rw [if_pos e]
    refine ⟨hy, ?_⟩
    by_cases e0 : i = 0
    · rw [decide_eq_true e0]; rfl
    · have h4 := hp (i - 1) (by omega)
      unfold blankL at h4
      rw [if_neg (by omega), h4]; simp
  · rw [if_neg e]
    refine ⟨hs.1, ?_⟩
    by_cases e1 : t = i - 1
    · rw [if_pos e1, decide_eq_false hn]; simp
    · rw [if_neg e1]; exact hs.2
theorem block_blank (b : Bool) {n : Int} (h0 : 0 ≤ n) (h1 : n ≤ 1000000000) : blockB ⟨b, n, List.replicate 4 z103⟩ = true := by
  refine block_iff.2 ⟨rfl, ⟨h0, h1⟩, fun i hi => ?_⟩
  have : i = 0 ∨ i = 1 ∨ i = 2 ∨ i = 3 := by omega
  rcases this with rfl | rfl | rfl | rfl
  · exact (by decide : stepB (List.replicate 4 z103) 0 = true)
  · exact (by decide : stepB (List.replicate 4 z103) 1 = true)
  · exact (by decide : stepB (List.replicate 4 z103) 2 = true)
  · exact (by decide : stepB (List.replicate 4 z103) 3 = true)
theorem wipe_right {f : List S49} (b : Int) (h : flashB f = true) : flashB (wipeB f b).1 = true ∧ (wipeB f b).1.length = f.length := by
  unfold wipeB
  by_cases hw : wipeOk f b = true
  · rw [if_pos hw]
    unfold wipeOk at hw
    rw [Bool.and_eq_true, Bool.not_eq_true', decide_eq_false_iff_not] at hw
    obtain ⟨h1, h2, h3, h4, h5⟩ := use_of hw.1
    obtain ⟨_, ⟨w0, w1⟩, _⟩ := block_iff.1 ((flash_iff.1 h).1 b.toNat h3)
    have hq := hw.2
    refine ⟨?_, by show (List.set _ _ _).length = _; rw [List.length_set]⟩
    show flashB (f.set b.toNat _) = true
    rw [w64 (by omega) (by omega)]
    exact flash_set h h3 (block_blank false (by omega) (by omega))
  · rw [if_neg hw]; exact ⟨h, rfl⟩
theorem prog_right {f : List S49} (b a : Int) (t : ByteArray) (h : flashB f = true) : flashB (programB f b a t).1 = true ∧ (programB f b a t).1.length = f.length := by
  unfold programB
  by_cases hw : progOk f b a t = true
  · rw [if_pos hw]
    unfold progOk at hw
    simp only [Bool.and_eq_true, decide_eq_true_eq] at hw
    obtain ⟨hu, ⟨a0, a3⟩, ha, ht⟩ := hw
    obtain ⟨h1, h2, h3, h4, h5⟩ := use_of hu
    refine ⟨?_, by show (List.set _ _ _).length = _; rw [List.length_set]⟩
    show flashB (f.set b.toNat _) = true
    refine flash_set h h3 (block_fill ((flash_iff.1 h).1 b.toNat h3) (by omega) (fun i hi => ?_) ?_ (by show ¬ (1 : Int) = 0; decide))
    · rcases next_spec (f.getD b.toNat z49).f2 with ⟨n4, _⟩ | ⟨j, _, n1, _, n3⟩
      · omega
      · exact n3 i (by omega)
    · unfold leafB
      rw [if_neg (by show ¬ (1 : Int) = 0; decide), if_pos rfl]
      exact decide_eq_true ht
  · rw [if_neg hw]; exact ⟨h, rfl⟩
end Go.Proofs.Ytcpgpchdplpfiaa.Pu

/- How many leaves can be written, and what that says of the next place. -/
namespace Go.Proofs.Ytcpgpchdplpfiaa.Pu
set_option linter.unusedVariables false
set_option linter.unusedSimpArgs false
open Go.RowKit Go.Proofs.Ytcpgpchdplpfiaa.PF Go.Proofs.YtcpgpchdplpfiaaW.PrintWords

def blkN (b : S49) : Nat := if b.f0 = true then 0 else blanksN b.f2
def roomN : List S49 → Nat
  | [] => 0
  | b :: l => blkN b + roomN l
theorem room_le : ∀ (f : List S49) (m : Nat), (∀ x ∈ f, x.f2.length ≤ m) → roomN f ≤ f.length * m
  | [], m, _ => Nat.zero_le _
  | b :: l, m, h => by
    have h1 := room_le l m fun x hx => h x (List.mem_cons_of_mem _ hx)
    have h2 := h b List.mem_cons_self
    have h3 := blanksN_le b.f2
    show blkN b + roomN l ≤ (l.length + 1) * m
    rw [Nat.add_mul]
    unfold blkN
    split <;> omega
theorem dropB {f : List S49} {i : Nat} (h : i < f.length) : f.drop i = f.getD i z49 :: f.drop (i + 1) := by
  rw [List.drop_eq_getElem_cons h, List.getD_eq_getElem?_getD, List.getElem?_eq_getElem h]; rfl
theorem iRoomOf_ev (f : List S49) (hn : f.length ≤ 1048576) (hk : ∀ x ∈ f, x.f2.length ≤ 1048576) : Ev (fun k => impl_RoomOf.f k f) (roomN f : Int) := by
  unfold impl_RoomOf.f
  have hle := room_le f 1048576 hk
  have main : ∀ (d i a : Nat), i + d = f.length → a + roomN (f.drop i) = roomN f → Ev (fun k => impl_RoomOf.l0 k (a : Int) f (f.length : Int) (i : Int)) (roomN f : Int) := by
    intro d
    induction d with
    | zero =>
      intro i a hi ha
      rw [List.drop_eq_nil_of_le (by omega)] at ha
      exact ev_some fun k => by simp only [impl_RoomOf.l0]; rw [if_neg (by omega), ← ha]; rfl
    | succ d ih =>
      intro i a hi ha
      have hil : i < f.length := by omega
      rw [dropB hil] at ha
      have ha : a + (blkN (f.getD i z49) + roomN (f.drop (i + 1))) = roomN f := ha
      by_cases hb : (f.getD i z49).f0 = true
      · unfold blkN at ha
        rw [if_pos hb] at ha
        refine Ev.step (fun k => ?_) (ih (i + 1) a (by omega) (by omega))
        simp only [impl_RoomOf.l0]
        rw [if_pos (by omega), if_pos (by omega), if_pos (by omega), rdIB_nat, if_pos hb, wsucc (n := f.length) hil (by omega)]
      · unfold blkN at ha
        rw [if_neg hb] at ha
        refine Ev.step (f := fun k => (impl_blanks.f k (f.getD i z49).f0 (f.getD i z49).f1 (f.getD i z49).f2).bind fun t298 => impl_RoomOf.l0 k (wrap64 ((a : Int) + t298)) f (f.length : Int) ((i + 1 : Nat) : Int)) (fun k => ?_) (ev_bind (iBlanks_ev _ _ _ (hk _ (getD_mem' hil))) ?_)
        · simp only [impl_RoomOf.l0]
          rw [if_pos (by omega), if_pos (by omega), if_pos (by omega), rdIB_nat, if_neg hb, wsucc (n := f.length) hil (by omega)]
        · rw [w64 (by omega) (by omega)]
          exact ih (i + 1) (a + blanksN (f.getD i z49).f2) (by omega) (by omega)
  exact main f.length 0 0 (by omega) (by simp)
theorem free_eq (f : List S49) : freeL f = ((List.range' 0 f.length).filter (freeT f)).map fun i : Nat => (i : Int) := by
  have main : ∀ (l : List Nat) (s : List Int), l.foldl (freeF f) s = s ++ (l.filter (freeT f)).map fun i : Nat => (i : Int) := by
    intro l
    induction l with
    | nil => intro s; simp
    | cons i l ih =>
      intro s
      rw [List.foldl_cons, ih, List.filter_cons]
      unfold freeF
      by_cases h : freeT f i = true
      · rw [if_pos h, if_pos h, List.map_cons, List.append_assoc, List.singleton_append]
      · rw [if_neg h, if_neg h]
  rw [freeL_eq, main, List.nil_append]
theorem free_mem {f : List S49} {x : Int} : x ∈ freeL f ↔ ∃ i : Nat, i < f.length ∧ freeT f i = true ∧ x = (i : Int) := by
  rw [free_eq, List.mem_map]
  constructor
  · rintro ⟨i, hi, rfl⟩
    obtain ⟨h1, h2⟩ := List.mem_filter.1 hi
    exact ⟨i, by simp at h1; omega, h2, rfl⟩
  · rintro ⟨i, h1, h2, rfl⟩
    exact ⟨i, List.mem_filter.2 ⟨by simp; omega, h2⟩, rfl⟩
theorem best_mem (f : List S49) : ∀ (l : List Int) (b : Int), bestOf f b l ∈ b :: l
  | [], b => List.mem_cons_self
  | x :: l, b => by
    show bestOf f (if wearAt f x < wearAt f b then x else b) l ∈ b :: x :: l
    have h := best_mem f l (if wearAt f x < wearAt f b then x else b)
    rcases List.mem_cons.1 h with h | h
    · rw [h]
      split
      · exact List.mem_cons_of_mem _ List.mem_cons_self
      · exact List.mem_cons_self
    · exact List.mem_cons_of_mem _ (List.mem_cons_of_mem _ h)
theorem free_next {f : List S49} {i : Nat} (h : freeT f i = true) (h4 : (f.getD i z49).f2.length = 4) : (f.getD i z49).f0 = false ∧ nextB (f.getD i z49).f2 = 0 := by
  unfold freeT at h
  rw [Bool.and_eq_true, Bool.not_eq_true', List.all_eq_true] at h
  refine ⟨h.1, ?_⟩
  have h0 := h.2 _ (getD_mem' (l := (f.getD i z49).f2) (i := 0) (z := z103) (by omega))
  rcases next_spec (f.getD i z49).f2 with ⟨_, n1⟩ | ⟨t, _, n2, _, n3⟩
  · rw [n1 0 (by omega)] at h0; cases h0
  · by_cases e : t = 0
    · rw [n2, e]; rfl
    · rw [n3 0 (by omega)] at h0; cases h0
theorem open_next {f : List S49} {i : Nat} (h : openT f i = true) : (f.getD i z49).f0 = false ∧ ∃ t : Nat, t < (f.getD i z49).f2.length ∧ nextB (f.getD i z49).f2 = (t : Int) := by
  unfold openT at h
  rw [Bool.and_eq_true, Bool.and_eq_true, Bool.not_eq_true', decide_eq_true_eq, decide_eq_true_eq] at h
  refine ⟨h.1, ?_⟩
  rcases next_spec (f.getD i z49).f2 with ⟨_, n1⟩ | ⟨t, h1, n2, _, _⟩
  · exfalso
    have : blanksN (f.getD i z49).f2 = 0 := by
      unfold blanksN
      rw [List.length_eq_zero_iff, List.filter_eq_nil_iff]
      intro x hx
      obtain ⟨j, hj, rfl⟩ := List.getElem_of_mem hx
      have := n1 j hj
      rw [List.getD_eq_getElem?_getD, List.getElem?_eq_getElem hj] at this
      exact Bool.eq_false_iff.1 this
    omega
  · exact ⟨t, h1, n2⟩
theorem open_spec (f : List S49) : (openB f = -1 ∧ ∀ i, i < f.length → openT f i = false) ∨ ∃ j : Nat, j < f.length ∧ openB f = (j : Int) ∧ openT f j = true := by
  unfold openB
  rcases findI_range (T := openT f) f.length 0 with h | ⟨j, _, h2, h3, h4⟩
  · exact .inl ⟨h, fun i hi => findI_none _ _ h i (Nat.zero_le _) (by omega)⟩
  · exact .inr ⟨j, by omega, h3, h4⟩
theorem room_pos : ∀ (f : List S49), 0 < roomN f → ∃ i, i < f.length ∧ 0 < blkN (f.getD i z49)
  | [], h => by cases h
  | b :: l, h => by
    have h : 0 < blkN b + roomN l := h
    by_cases hb : 0 < blkN b
    · exact ⟨0, by simp, hb⟩
    · obtain ⟨i, h1, h2⟩ := room_pos l (by omega)
      exact ⟨i + 1, by simp; omega, h2⟩
theorem room_ge : ∀ (f : List S49) (i : Nat), i < f.length → blkN (f.getD i z49) ≤ roomN f
  | [], i, h => by simp at h
  | b :: l, 0, _ => by show blkN b ≤ blkN b + roomN l; omega
  | b :: l, i + 1, h => by
    have := room_ge l i (by simpa using h)
    show blkN (l.getD i z49) ≤ blkN b + roomN l
    omega
theorem room_set : ∀ (f : List S49) (i : Nat) (y : S49), i < f.length → roomN (f.set i y) + blkN (f.getD i z49) = roomN f + blkN y
  | [], i, y, h => by simp at h
  | b :: l, 0, y, _ => by show blkN y + roomN l + blkN b = blkN b + roomN l + blkN y; omega
  | b :: l, i + 1, y, h => by
    have := room_set l i y (by simpa using h)
    show blkN b + roomN (l.set i y) + blkN (l.getD i z49) = blkN b + roomN l + blkN y
    omega
theorem blanks_set : ∀ (l : List S103) (t : Nat) (y : S103), t < l.length → blankL (l.getD t z103) = true → blankL y = false → blanksN (l.set t y) + 1 = blanksN l
  | [], t, y, h, _, _ => by simp at h
  | x :: l, 0, y, _, h1, h2 => by
    have h1 : blankL x = true := h1
    unfold blanksN
    show ((y :: l).filter blankL).length + 1 = ((x :: l).filter blankL).length
    rw [List.filter_cons, List.filter_cons, if_neg (by rw [h2]; decide), if_pos h1]; rfl
  | x :: l, t + 1, y, h, h1, h2 => by
    have := blanks_set l t y (by simpa using h) h1 h2
    unfold blanksN at this ⊢
    show ((x :: l.set t y).filter blankL).length + 1 = ((x :: l).filter blankL).length
    rw [List.filter_cons, List.filter_cons]
    by_cases hx : blankL x = true
    · rw [if_pos hx, if_pos hx]; simp only [List.length_cons]; omega
    · rw [if_neg hx, if_neg hx]; exact this
/-- The next place of a right flash: there is none, and no room; or it is the next blank leaf of a block that is not bad. -/
theorem place_spec {f : List S49} (hf : flashB f = true) : (placeR f = (0, 0, false) ∧ roomN f = 0 ∧ openB f = -1 ∧ freeL f = []) ∨
    ∃ i : Nat, i < f.length ∧ (f.getD i z49).f0 = false ∧ (∃ t : Nat, t < 4 ∧ nextB (f.getD i z49).f2 = (t : Int) ∧ placeR f = ((i : Int), (t : Int), true)) ∧ 0 < roomN f ∧ (openB f = (i : Int) ∨ (openB f = -1 ∧ (i : Int) ∈ freeL f)) := by
  have h4 : ∀ i, i < f.length → (f.getD i z49).f2.length = 4 := fun i hi => (block_iff.1 ((flash_iff.1 hf).1 i hi)).1
  have pos : ∀ i, i < f.length → (f.getD i z49).f0 = false → 0 < blanksN (f.getD i z49).f2 → 0 < roomN f := fun i hi hb hp => by
    have h := room_ge f i hi
    unfold blkN at h
    rw [if_neg (by rw [hb]; decide)] at h
    omega
  unfold placeR
  rw [if_pos hf]
  rcases open_spec f with ⟨ho, hno⟩ | ⟨j, hj, ho, ht⟩
  · rw [if_neg (by omega)]
    cases hl : freeL f with
    | nil =>
      left
      refine ⟨rfl, ?_, ho, rfl⟩
      refine Nat.eq_zero_of_not_pos fun hp => ?_
      obtain ⟨i, hi, hb⟩ := room_pos f hp
      unfold blkN at hb
      by_cases hbad : (f.getD i z49).f0 = true
      · rw [if_pos hbad] at hb; omega
      · rw [if_neg hbad] at hb
        have h1 := hno i hi
        have hbad := Bool.eq_false_iff.mpr hbad
        unfold openT at h1
        rw [hbad, Bool.not_false, Bool.true_and, decide_eq_true hb, Bool.true_and, decide_eq_false_iff_not] at h1
        have h2 := blanksN_le (f.getD i z49).f2
        have h3 : freeT f i = true := by
          unfold freeT
          rw [hbad, all_filter, Bool.not_false, Bool.true_and, decide_eq_true_eq]
          show blanksN _ = _
          omega
        have := (free_mem (f := f) (x := (i : Int))).2 ⟨i, hi, h3, rfl⟩
        rw [hl] at this
        cases this
    | cons b l =>
      right
      have hm := best_mem f l b
      rw [← hl] at hm
      obtain ⟨i, hi, hfr, e⟩ := free_mem.1 hm
      obtain ⟨n1, n2⟩ := free_next hfr (h4 i hi)
      refine ⟨i, hi, n1, ⟨0, by omega, n2, by rw [← e]; rfl⟩, pos i hi n1 ?_, .inr ⟨ho, by rw [← hl, ← e]; exact hm⟩⟩
      unfold freeT at hfr
      rw [Bool.and_eq_true, all_filter, decide_eq_true_eq] at hfr
      show 0 < ((f.getD i z49).f2.filter blankL).length
      have := h4 i hi
      omega
  · right
    obtain ⟨n1, t, n2, n3⟩ := open_next ht
    rw [if_pos (by omega), ho, Int.toNat_natCast]
    refine ⟨j, hj, n1, ⟨t, by have := h4 j hj; omega, n3, by rw [n3]⟩, pos j hj n1 ?_, .inl rfl⟩
    unfold openT at ht
    rw [Bool.and_eq_true, Bool.and_eq_true, decide_eq_true_eq] at ht
    exact ht.2.1
end Go.Proofs.Ytcpgpchdplpfiaa.Pu

/- The reference's draws: a byte, a number below a bound, some places. -/
namespace Go.Proofs.Ytcpgpchdplpfiaa.Pu
set_option linter.unusedVariables false
set_option linter.unusedSimpArgs false
open Go.RowKit Go.Proofs.Ytcpgpchdplpfiaa.PF Go.Proofs.YtcpgpchdplpfiaaW.PrintWords

theorem and255 (x : Int) : 0 ≤ Go.bits .and .i64 x 255 ∧ Go.bits .and .i64 x 255 ≤ 255 := by
  have h : (BitVec.ofInt 64 x &&& BitVec.ofInt 64 255).toNat ≤ 255 := by
    rw [BitVec.toNat_and]; exact Nat.le_trans Nat.and_le_right (by decide)
  have e : Go.bits .and .i64 x 255 = Go.IntKind.i64.wrap ((BitVec.ofInt 64 x &&& BitVec.ofInt 64 255).toNat : Int) := rfl
  rw [e, Go.IntKind.wrap_i64]
  omega
/-- A draw's state: the place lies in the code. -/
theorem byte_eq (b : List Int) (i h : Int) (h0 : 0 ≤ i) (h1 : i ≤ b.length) (hb : b.length ≤ 9223372036854775807) : ∃ v i' h', spec_l01Byte.f b i h = some (v, i', h') ∧ (0 ≤ v ∧ v ≤ 255) ∧ 0 ≤ i' ∧ i' ≤ b.length := by
  unfold spec_l01Byte.f
  by_cases hi : i < (b.length : Int)
  · rw [if_pos hi, if_pos h0, w64 (x := i + 1) (by omega) (by omega)]
    exact ⟨_, _, _, rfl, and255 _, by omega, by omega⟩
  · rw [if_neg hi]
    exact ⟨_, _, _, rfl, and255 _, by omega, by omega⟩
theorem below_eq (b : List Int) (i h n : Int) (h0 : 0 ≤ i) (h1 : i ≤ b.length) (hb : b.length ≤ 9223372036854775807) (hn : 0 < n) : ∃ v i' h', spec_l01Below.f b i h n = some (v, i', h') ∧ (0 ≤ v ∧ v < n) ∧ 0 ≤ i' ∧ i' ≤ b.length := by
  unfold spec_l01Below.f
  rw [if_neg (by omega)]
  obtain ⟨v, i1, g1, e1, ⟨v0, v1⟩, a1, b1⟩ := byte_eq b i h h0 h1 hb
  rw [e1]
  by_cases hs : n ≤ 256
  · rw [if_pos hs, Option.bind_some, if_neg (by omega)]
    exact ⟨_, _, _, rfl, ⟨Int.tmod_nonneg _ v0, Int.tmod_lt_of_pos _ hn⟩, a1, b1⟩
  · rw [if_neg hs, Option.bind_some]
    obtain ⟨y, i2, g2, e2, ⟨y0, y1⟩, a2, b2⟩ := byte_eq b i1 g1 a1 b1 hb
    obtain ⟨z, i3, g3, e3, ⟨z0, z1⟩, a3, b3⟩ := byte_eq b i2 g2 a2 b2 hb
    obtain ⟨u, i4, g4, e4, ⟨u0, u1⟩, a4, b4⟩ := byte_eq b i3 g3 a3 b3 hb
    simp only [e2, e3, e4, Option.bind_some]
    rw [if_neg (by omega), w64 (x := v * 16777216) (by omega) (by omega), w64 (x := y * 65536) (by omega) (by omega), w64 (x := v * 16777216 + y * 65536) (by omega) (by omega), w64 (x := z * 256) (by omega) (by omega), w64 (x := v * 16777216 + y * 65536 + z * 256) (by omega) (by omega), w64 (x := v * 16777216 + y * 65536 + z * 256 + u) (by omega) (by omega)]
    exact ⟨_, _, _, rfl, ⟨Int.tmod_nonneg _ (by omega), Int.tmod_lt_of_pos _ hn⟩, a4, b4⟩
theorem new_ev (b : List Int) (hb : b.length ≤ 9223372036854775807) : ∃ h, Ev (fun k => spec_l01New.f k b) (b, 0, h) := by
  unfold spec_l01New.f
  have main : ∀ (d i : Nat) (h : Int), i + d = b.length → ∃ g, Ev (fun k => spec_l01New.l0 k b h (i : Int)) (b, 0, g) := by
    intro d
    induction d with
    | zero => intro i h hi; exact ⟨h, ev_some fun k => by simp only [spec_l01New.l0]; rw [if_neg (by omega)]⟩
    | succ d ih =>
      intro i h hi
      by_cases hf : (i : Int) < 4000
      · obtain ⟨g, hg⟩ := ih (i + 1) (Go.bits .and .i64 (wrap64 ((wrap64 ((wrap64 (h * 131)) + (wrap64 (rd b (i : Int))))) + 7)) 1073741823) (by omega)
        refine ⟨g, Ev.step (fun k => ?_) hg⟩
        simp only [spec_l01New.l0]
        rw [if_pos (by omega), if_pos hf, if_pos (by omega), wsucc (n := b.length) (by omega) hb]
      · exact ⟨h, ev_some fun k => by simp only [spec_l01New.l0]; rw [if_pos (by omega), if_neg hf]⟩
  exact main b.length 0 _ (by omega)
end Go.Proofs.Ytcpgpchdplpfiaa.Pu

/- The reference's draws of a yes or no, and of a text. -/
namespace Go.Proofs.Ytcpgpchdplpfiaa.Pu
set_option linter.unusedVariables false
set_option linter.unusedSimpArgs false
open Go.RowKit Go.Proofs.Ytcpgpchdplpfiaa.PF Go.Proofs.YtcpgpchdplpfiaaW.PrintWords

theorem once_draw (b : List Int) (i h n : Int) (h0 : 0 ≤ i) (h1 : i ≤ b.length) (hb : b.length ≤ 9223372036854775807) (hn : 0 < n) : ∃ v i' h', spec_l01Once.f b i h n = some (v, i', h') ∧ 0 ≤ i' ∧ i' ≤ b.length := by
  obtain ⟨v, j, g, e, _, a1, b1⟩ := below_eq b i h n h0 h1 hb hn
  unfold spec_l01Once.f
  rw [e, Option.bind_some]
  exact ⟨_, _, _, rfl, a1, b1⟩
theorem str_size (l : List Int) : (strOfNums l).size = l.length := by
  unfold strOfNums
  simp [ByteArray.size]
theorem textN_draw (b : List Int) (i h : Int) (n : Nat) (h0 : 0 ≤ i) (h1 : i ≤ b.length) (hb : b.length ≤ 9223372036854775807) (hn : n ≤ 5000) : ∃ s i' h', Ev (fun k => spec_l01Text.f k b i h (n : Int)) (s, i', h') ∧ s.size = n ∧ 0 ≤ i' ∧ i' ≤ b.length := by
  unfold spec_l01Text.f
  simp only [if_neg (show ¬ (n : Int) > 5000 by omega)]
  have main : ∀ (d m : Nat) (acc : List Int) (j g : Int), m + d = n → acc.length = m → 0 ≤ j → j ≤ b.length → ∃ s i' h', Ev (fun k => spec_l01Text.l0 k (n : Int) acc (m : Int) b j g) (s, i', h') ∧ s.size = n ∧ 0 ≤ i' ∧ i' ≤ b.length := by
    intro d
    induction d with
    | zero =>
      intro m acc j g hm hl hj0 hj1
      exact ⟨strOfNums acc, j, g, ev_some fun k => by simp only [spec_l01Text.l0]; rw [if_neg (by omega)], by rw [str_size]; omega, hj0, hj1⟩
    | succ d ih =>
      intro m acc j g hm hl hj0 hj1
      obtain ⟨v, j2, g2, e2, _, a2, b2⟩ := byte_eq b j g hj0 hj1 hb
      obtain ⟨s, i', h', l1, l2, l3, l4⟩ := ih (m + 1) (acc ++ [v % 256]) j2 g2 (by omega) (by simp; omega) a2 b2
      refine ⟨s, i', h', Ev.step (fun k => ?_) l1, l2, l3, l4⟩
      simp only [spec_l01Text.l0, e2, Option.bind_some]
      rw [if_pos (by omega), if_pos (by omega), wsucc (n := n) (by omega) (by omega)]
  obtain ⟨s, i', h', l1, l2, l3, l4⟩ := main n 0 [] i h (by omega) rfl h0 h1
  exact ⟨s, i', h', Ev.step (fun k => by simp only [spec_l01Text.j0]; rfl) l1, l2, l3, l4⟩
end Go.Proofs.Ytcpgpchdplpfiaa.Pu

/- A drawn flash is right. -/
namespace Go.Proofs.Ytcpgpchdplpfiaa.Pu
set_option linter.unusedVariables false
set_option linter.unusedSimpArgs false
open Go.RowKit Go.Proofs.Ytcpgpchdplpfiaa.PF Go.Proofs.YtcpgpchdplpfiaaW.PrintWords

theorem flashNew_ev (n : Int) (h0 : 3 ≤ n) (h1 : n ≤ 10) : Ev (fun k => spec_FlashNew.f k n) (List.replicate n.toNat ⟨false, 0, List.replicate 4 z103⟩, true) := by
  unfold spec_FlashNew.f
  simp only [l01InF_eq, Option.bind_some, decide_eq_true (show 3 ≤ n ∧ n ≤ 10 from ⟨h0, h1⟩), if_true]
  have main : ∀ (d i : Nat) (acc : List S49), (i : Int) + d = n → acc.length = i → Ev (fun k => spec_FlashNew.l0 k n (i : Int) acc) (acc ++ List.replicate d ⟨false, 0, List.replicate 4 z103⟩, true) := by
    intro d
    induction d with
    | zero => intro i acc hi hl; exact ev_some fun k => by simp only [spec_FlashNew.l0]; rw [if_neg (by omega)]; simp
    | succ d ih =>
      intro i acc hi hl
      have h := ih (i + 1) (acc ++ [⟨false, 0, List.replicate 4 z103⟩]) (by omega) (by simp; omega)
      rw [List.append_assoc, List.singleton_append] at h
      refine Ev.step (fun k => ?_) h
      simp only [spec_FlashNew.l0]
      rw [if_pos (by omega), if_pos (by omega), if_pos (by omega), wsucc (n := 10) (by omega) (by omega)]
  have h := main n.toNat 0 [] (by omega) rfl
  rw [List.nil_append] at h
  exact h
theorem new_right {n : Int} (h0 : 3 ≤ n) (h1 : n ≤ 10) : flashB (List.replicate n.toNat ⟨false, 0, List.replicate 4 z103⟩) = true := by
  refine flash_iff.2 ⟨fun i hi => ?_, by rw [List.length_replicate]; omega, by rw [List.length_replicate]; omega⟩
  rw [List.length_replicate] at hi
  rw [List.getD_eq_getElem?_getD, List.getElem?_replicate, if_pos hi]
  exact block_blank false (by decide) (by decide)
theorem markBad_ev (f : List S49) (b : Int) (h : flashB f = true) : ∃ g, Ev (fun k => spec_MarkBad.f k f b) g ∧ flashB g = true ∧ g.length = f.length := by
  obtain ⟨hn, hk⟩ := flash_small h
  obtain ⟨_, l3, l10⟩ := flash_iff.1 h
  unfold spec_MarkBad.f
  simp only [l01InF_eq, Option.bind_some, w64 (x := (f.length : Int) - 1) (by omega) (by omega)]
  by_cases hb : 0 ≤ b ∧ b ≤ (f.length : Int) - 1
  · have hi : b.toNat < f.length := by omega
    obtain ⟨h1, h2, h3⟩ := block_iff.1 ((flash_iff.1 h).1 b.toNat hi)
    refine ⟨f.set b.toNat ⟨true, (f.getD b.toNat z49).f1, (f.getD b.toNat z49).f2⟩, ev_bind (sCopyF_ev f hn hk) ?_, flash_set h hi (block_iff.2 ⟨h1, h2, h3⟩), List.length_set⟩
    simp only [decide_eq_true hb, if_true, if_pos hb.1, if_pos (show b < (f.length : Int) by omega), rdB_toNat]
    exact Ev.now _
  · refine ⟨f, ev_bind (sCopyF_ev f hn hk) ?_, h, rfl⟩
    simp only [decide_eq_false hb, Bool.false_eq_true, if_false]
    exact Ev.now _
theorem torn_right {f : List S49} {b : Int} (h : flashB f = true) (h0 : 0 ≤ b) (h1 : b < (f.length : Int)) (ht : nextB (f.getD b.toNat z49).f2 < 4) (y : S103) (hy : leafB y = true) (hn : ¬ y.f0 = 0) :
    flashB (f.set b.toNat ⟨(f.getD b.toNat z49).f0, (f.getD b.toNat z49).f1, (f.getD b.toNat z49).f2.set (nextB (f.getD b.toNat z49).f2).toNat y⟩) = true := by
  have hi : b.toNat < f.length := by omega
  refine flash_set h hi (block_fill ((flash_iff.1 h).1 b.toNat hi) (by have := nextB_range (f.getD b.toNat z49).f2; omega) (fun i hi2 => ?_) hy hn)
  rcases next_spec (f.getD b.toNat z49).f2 with ⟨n4, _⟩ | ⟨j, _, n1, _, n3⟩
  · omega
  · exact n3 i (by omega)
theorem flash_draw (b : List Int) (i h : Int) (h0 : 0 ≤ i) (h1 : i ≤ b.length) (hb : b.length ≤ 9223372036854775807) : ∃ f i' h', Ev (fun k => spec_l05Flash.f k b i h) (f, i', h') ∧ flashB f = true ∧ 0 ≤ i' ∧ i' ≤ b.length := by
  unfold spec_l05Flash.f
  obtain ⟨v, i1, g1, e1, ⟨v0, v1⟩, a1, b1⟩ := below_eq b i h 5 h0 h1 hb (by omega)
  rw [e1]
  simp only [Option.bind_some, w64 (x := 3 + v) (by omega) (by omega)]
  have last : ∀ (f : List S49) (j g : Int), flashB f = true → 0 ≤ j → j ≤ b.length → ∃ f' i' h', Ev (fun k => (spec_l01Once.f b j g 4).bind fun bt237 => if bt237.1 = true then (spec_l01Below.f b bt237.2.1 bt237.2.2 (f.length : Int)).bind fun bt240 => (spec_MarkBad.f k f bt240.1).bind fun t243 => some (t243, bt240.2.1, bt240.2.2) else some (f, bt237.2.1, bt237.2.2)) (f', i', h') ∧ flashB f' = true ∧ 0 ≤ i' ∧ i' ≤ b.length := by
    intro f j g hf hj0 hj1
    obtain ⟨_, l3, l10⟩ := flash_iff.1 hf
    obtain ⟨o, i2, g2, e2, a2, b2⟩ := once_draw b j g 4 hj0 hj1 hb (by omega)
    rw [e2]
    cases o with
    | true =>
      obtain ⟨x, i3, g3, e3, ⟨x0, x1⟩, a3, b3⟩ := below_eq b i2 g2 (f.length : Int) a2 b2 hb (by omega)
      obtain ⟨f', m1, m2, m3⟩ := markBad_ev f x hf
      refine ⟨f', i3, g3, ?_, m2, a3, b3⟩
      simp only [Option.bind_some, if_true, e3]
      exact ev_bind m1 (Ev.now _)
    | false =>
      refine ⟨f, i2, g2, ?_, hf, a2, b2⟩
      simp only [Option.bind_some, Bool.false_eq_true, if_false]
      exact Ev.now _
  have main : ∀ (d m : Nat) (f : List S49) (j g : Int), m + d = 20 → flashB f = true → 0 ≤ j → j ≤ b.length → ∃ f' i' h', Ev (fun k => spec_l05Flash.l0 k (m : Int) b j g f) (f', i', h') ∧ flashB f' = true ∧ 0 ≤ i' ∧ i' ≤ b.length := by
    intro d
    induction d with
    | zero =>
      intro m f j g hm hf hj0 hj1
      obtain ⟨x, i2, g2, e2, ⟨x0, x1⟩, a2, b2⟩ := below_eq b j g 20 hj0 hj1 hb (by omega)
      obtain ⟨f', i', h', l1, l2⟩ := last f i2 g2 hf a2 b2
      refine ⟨f', i', h', Ev.step (fun k => ?_) l1, l2⟩
      simp only [spec_l05Flash.l0, e2, Option.bind_some]
      rw [if_neg (by omega)]
    | succ d ih =>
      intro m f j g hm hf hj0 hj1
      obtain ⟨x, i2, g2, e2, ⟨x0, x1⟩, a2, b2⟩ := below_eq b j g 20 hj0 hj1 hb (by omega)
      by_cases hx : (m : Int) < x
      · obtain ⟨_, l3, l10⟩ := flash_iff.1 hf
        obtain ⟨hn, hk⟩ := flash_small hf
        obtain ⟨c, i3, g3, e3, ⟨c0, c1⟩, a3, b3⟩ := below_eq b i2 g2 (f.length : Int) a2 b2 hb (by omega)
        obtain ⟨s, i4, g4, e4, ⟨s0, s1⟩, a4, b4⟩ := below_eq b i3 g3 8 a3 b3 hb (by omega)
        have ci : c.toNat < f.length := by omega
        have hnx := sNext_ev (f.getD c.toNat z49).f0 (f.getD c.toNat z49).f1 (f.getD c.toNat z49).f2 (hk _ (getD_mem' ci))
        have ws : wrap64 ((m : Int) + 1) = ((m + 1 : Nat) : Int) := wsucc (n := 20) (by omega) (by omega)
        have l4 : (f.getD c.toNat z49).f2.length = 4 := (block_iff.1 ((flash_iff.1 hf).1 _ ci)).1
        have nr := nextB_range (f.getD c.toNat z49).f2
        by_cases k0 : s = 0
        · obtain ⟨w1, w2⟩ := wipe_right c hf
          obtain ⟨f', i', h', r1, r2⟩ := ih (m + 1) (wipeB f c).1 i4 g4 (by omega) w1 a4 b4
          refine ⟨f', i', h', Ev.step (f := fun k => (spec_Wipe.f k f c).bind fun bt213 => spec_l05Flash.l0 k ((m + 1 : Nat) : Int) b i4 g4 bt213.1) (fun k => ?_) (ev_bind (sWipe_ev f c hn hk) r1), r2⟩
          simp only [spec_l05Flash.l0, e2, e3, e4, Option.bind_some]
          rw [if_pos hx, if_pos k0, ws]
        · by_cases k1 : s = 1
          · by_cases ht : nextB (f.getD c.toNat z49).f2 < 4
            · obtain ⟨f', i', h', r1, r2⟩ := ih (m + 1) _ i4 g4 (by omega) (torn_right hf c0 c1 ht ⟨2, ⟨#[116, 111]⟩⟩ (by decide) (by decide)) a4 b4
              refine ⟨f', i', h', Ev.step (f := fun k => (spec_NextBlank.f k (f.getD c.toNat z49).f0 (f.getD c.toNat z49).f1 (f.getD c.toNat z49).f2).bind fun t218 => if t218 < 4 then (spec_NextBlank.f k (f.getD c.toNat z49).f0 (f.getD c.toNat z49).f1 (f.getD c.toNat z49).f2).bind fun t221 => (if 0 ≤ t221 then (if t221 < ((f.getD c.toNat z49).f2.length : Int) then spec_l05Flash.l0 k ((m + 1 : Nat) : Int) b i4 g4 (f.set c.toNat ⟨(f.getD c.toNat z49).f0, (f.getD c.toNat z49).f1, (f.getD c.toNat z49).f2.set t221.toNat ⟨2, ⟨#[116, 111]⟩⟩⟩) else none) else none) else spec_l05Flash.l0 k ((m + 1 : Nat) : Int) b i4 g4 f) (fun k => ?_) (ev_bind hnx ?_), r2⟩
              · simp only [spec_l05Flash.l0, e2, e3, e4, Option.bind_some]
                rw [if_pos hx, if_neg k0, if_pos k1, if_pos c0, if_pos c1, ws]
                rfl
              · simp only [if_pos ht]
                refine ev_bind hnx ?_
                simp only [if_pos nr, if_pos (show nextB (f.getD c.toNat z49).f2 < ((f.getD c.toNat z49).f2.length : Int) by omega)]
                exact r1
            · obtain ⟨f', i', h', r1, r2⟩ := ih (m + 1) f i4 g4 (by omega) hf a4 b4
              refine ⟨f', i', h', Ev.step (f := fun k => (spec_NextBlank.f k (f.getD c.toNat z49).f0 (f.getD c.toNat z49).f1 (f.getD c.toNat z49).f2).bind fun t218 => if t218 < 4 then (spec_NextBlank.f k (f.getD c.toNat z49).f0 (f.getD c.toNat z49).f1 (f.getD c.toNat z49).f2).bind fun t221 => (if 0 ≤ t221 then (if t221 < ((f.getD c.toNat z49).f2.length : Int) then spec_l05Flash.l0 k ((m + 1 : Nat) : Int) b i4 g4 (f.set c.toNat ⟨(f.getD c.toNat z49).f0, (f.getD c.toNat z49).f1, (f.getD c.toNat z49).f2.set t221.toNat ⟨2, ⟨#[116, 111]⟩⟩⟩) else none) else none) else spec_l05Flash.l0 k ((m + 1 : Nat) : Int) b i4 g4 f) (fun k => ?_) (ev_bind hnx ?_), r2⟩
              · simp only [spec_l05Flash.l0, e2, e3, e4, Option.bind_some]
                rw [if_pos hx, if_neg k0, if_pos k1, if_pos c0, if_pos c1, ws]
                rfl
              · simp only [if_neg ht]
                exact r1
          · obtain ⟨y, i5, g5, e5, ⟨y0, y1⟩, a5, b5⟩ := below_eq b i4 g4 5 a4 b4 hb (by omega)
            obtain ⟨u, i6, g6, t1, t2, a6, b6⟩ := textN_draw b i5 g5 (1 + y).toNat a5 b5 hb (by omega)
            rw [show (((1 + y).toNat : Nat) : Int) = 1 + y by omega] at t1
            obtain ⟨w1, w2⟩ := prog_right c (nextB (f.getD c.toNat z49).f2) u hf
            obtain ⟨f', i', h', r1, r2⟩ := ih (m + 1) (programB f c (nextB (f.getD c.toNat z49).f2) u).1 i6 g6 (by omega) w1 a6 b6
            refine ⟨f', i', h', Ev.step (f := fun k => (spec_NextBlank.f k (f.getD c.toNat z49).f0 (f.getD c.toNat z49).f1 (f.getD c.toNat z49).f2).bind fun t226 => (spec_l01Text.f k b i5 g5 (1 + y)).bind fun bt230 => (spec_Program.f k f c t226 bt230.1).bind fun bt233 => spec_l05Flash.l0 k ((m + 1 : Nat) : Int) b bt230.2.1 bt230.2.2 bt233.1) (fun k => ?_) (ev_bind hnx (ev_bind t1 (ev_bind (sProgram_ev f c _ u hn hk) r1))), r2⟩
            simp only [spec_l05Flash.l0, e2, e3, e4, e5, Option.bind_some, w64 (x := 1 + y) (by omega) (by omega)]
            rw [if_pos hx, if_neg k0, if_neg k1, if_pos c0, if_pos c1, ws]
            rfl
      · obtain ⟨f', i', h', l1, l2⟩ := last f i2 g2 hf a2 b2
        refine ⟨f', i', h', Ev.step (fun k => ?_) l1, l2⟩
        simp only [spec_l05Flash.l0, e2, Option.bind_some]
        rw [if_neg hx]
  obtain ⟨f', i', h', l1, l2⟩ := main 20 0 _ i1 g1 rfl (new_right (n := 3 + v) (by omega) (by omega)) a1 b1
  exact ⟨f', i', h', ev_bind (flashNew_ev (3 + v) (by omega) (by omega)) l1, l2⟩
theorem rightFlash_draw (b : List Int) (hb : b.length ≤ 9223372036854775807) : ∃ f, Ev (fun k => spec_DrawRightFlash.f k b) f ∧ flashB f = true := by
  unfold spec_DrawRightFlash.f
  obtain ⟨h, hnew⟩ := new_ev b hb
  obtain ⟨f, i', h', l1, l2, _⟩ := flash_draw b 0 h (by omega) (by omega) hb
  exact ⟨f, ev_bind hnew (ev_bind l1 (Ev.now _)), l2⟩
end Go.Proofs.Ytcpgpchdplpfiaa.Pu

/- FnPlacesOf: the next place of a drawn flash is blank, and the next one of its block; as long as there is room there is one. -/
namespace Go.Proofs.Ytcpgpchdplpfiaa.Pure
set_option linter.unusedVariables false
set_option linter.unusedSimpArgs false
open Go.RowKit Go.Proofs.Ytcpgpchdplpfiaa.PF Go.Proofs.YtcpgpchdplpfiaaW.PrintWords Go.Proofs.Ytcpgpchdplpfiaa.Pu

theorem inL_ev (l : List Int) (x : Int) (hl : l.length ≤ 9223372036854775807) (hx : x ∈ l) : Ev (fun k => laws_in.f k l x) true := by
  unfold laws_in.f
  have main : ∀ (d i : Nat), i + d = l.length → x ∈ l.drop i → Ev (fun k => laws_in.l0 k l x (i : Int)) true := by
    intro d
    induction d with
    | zero => intro i hi hm; rw [List.drop_eq_nil_of_le (by omega)] at hm; cases hm
    | succ d ih =>
      intro i hi hm
      have hil : i < l.length := by omega
      rw [List.drop_eq_getElem_cons hil] at hm
      have e : rd l (i : Int) = l[i] := by show l.getD i 0 = _; rw [List.getD_eq_getElem?_getD, List.getElem?_eq_getElem hil]; rfl
      by_cases h : l[i] = x
      · exact ev_some fun k => by simp only [laws_in.l0]; rw [if_pos (by omega), if_pos (by omega), e, if_pos h]
      · refine Ev.step (fun k => ?_) (ih (i + 1) (by omega) ?_)
        · simp only [laws_in.l0]
          rw [if_pos (by omega), if_pos (by omega), e, if_neg h, wsucc (n := l.length) hil hl]
        · rcases List.mem_cons.1 hm with hm | hm
          · exact absurd hm.symm h
          · exact hm
  exact main l.length 0 (by omega) (by rw [List.drop_zero]; exact hx)
theorem FnPlacesOf : laws_FnPlacesOf.Pure := by
  intro l hl _ hx
  refine Ev.rounds (g := fun k => laws_FnPlacesOf.f k l) ?_
  unfold maxLen at hl
  unfold laws_FnPlacesOf.f laws_big.f
  refine ev_bind (Ev.now (decide ((l.length : Int) > 1048576))) ?_
  by_cases hbig : (l.length : Int) > 1048576
  · simp only [decide_eq_true hbig, if_true]; exact Ev.now _
  · simp only [decide_eq_false hbig, Bool.false_eq_true, if_false]
    obtain ⟨f, hd, hf⟩ := rightFlash_draw l (by omega)
    obtain ⟨hn, hk⟩ := flash_small hf
    obtain ⟨_, l3, l10⟩ := flash_iff.1 hf
    have h4 : ∀ i, i < f.length → (f.getD i z49).f2.length = 4 := fun i hi => (block_iff.1 ((flash_iff.1 hf).1 i hi)).1
    have hle := room_le f 4 fun x hx => by
      obtain ⟨i, hi, rfl⟩ := List.getElem_of_mem hx
      have := h4 i hi
      rw [List.getD_eq_getElem?_getD, List.getElem?_eq_getElem hi] at this
      exact Nat.le_of_eq this
    have frl := (freeL_inv f).1
    refine ev_bind hd (ev_bind (iPlace_ev f hn hk) (ev_bind (iRoomOf_ev f hn hk) ?_))
    have free : ∀ (P : Int × Int × Bool) (R : Int), Ev (fun k => laws_FnPlacesOf.l0 k P.1 P.2.1 P.2.2 R (freeL f) ((freeL f).length : Int) f) true → Ev (fun k => laws_FnPlacesOf.l0 k P.1 P.2.1 P.2.2 R (freeL f) 0 f) true := by
      intro P R fin
      have main : ∀ (d i : Nat), i + d = (freeL f).length → Ev (fun k => laws_FnPlacesOf.l0 k P.1 P.2.1 P.2.2 R (freeL f) (i : Int) f) true := by
        intro d
        induction d with
        | zero => intro i hi; rw [show i = (freeL f).length by omega]; exact fin
        | succ d ih =>
          intro i hi
          have hil : i < (freeL f).length := by omega
          obtain ⟨j, hj, hfr, e⟩ := free_mem.1 (getD_mem' (z := 0) hil)
          obtain ⟨n1, n2⟩ := free_next hfr (h4 j hj)
          have hnx := sNext_ev (f.getD j z49).f0 (f.getD j z49).f1 (f.getD j z49).f2 (hk _ (getD_mem' hj))
          rw [n2] at hnx
          have er : rd (freeL f) (i : Int) = (j : Int) := e
          refine Ev.step (f := fun k => (spec_NextBlank.f k (f.getD j z49).f0 (f.getD j z49).f1 (f.getD j z49).f2).bind fun t316 => if t316 = 0 then laws_FnPlacesOf.l0 k P.1 P.2.1 P.2.2 R (freeL f) ((i + 1 : Nat) : Int) f else some false) (fun k => ?_) (ev_bind hnx ?_)
          · simp only [laws_FnPlacesOf.l0]
            rw [if_pos (by omega), if_pos (by omega), er, if_pos (by omega), if_pos (by omega), rdIB_nat, if_neg (by rw [n1]; decide), wsucc (n := (freeL f).length) hil (by omega)]
          · simp only [if_true]; exact ih (i + 1) (by omega)
      exact main (freeL f).length 0 (by omega)
    rcases place_spec hf with ⟨hp, hr, ho, hl0⟩ | ⟨i, hi, hb, ⟨t, t4, ht, hp⟩, hr, hof⟩
    · rw [hp, hr]
      simp only [show (((0 : Int), (0 : Int), false).2.2 != decide (((0 : Nat) : Int) > 0)) = false by decide, Bool.false_eq_true, if_false]
      refine ev_bind (iFree_ev f hn hk) (free (0, 0, false) _ ?_)
      refine Ev.step (f := fun k => (impl_OpenBlock.f k f).bind fun t317 => if t317 = (-1) then some (((freeL f).length : Int) == 0) else some false) (fun k => by simp only [laws_FnPlacesOf.l0]; rw [if_neg (by omega)]; rfl) (ev_bind (iOpen_ev f hn hk) ?_)
      rw [ho, hl0]
      exact Ev.now _
    · rw [hp]
      have e1 : ((((i : Int), (t : Int), true) : Int × Int × Bool).2.2 != decide ((roomN f : Int) > 0)) = false := by rw [decide_eq_true (show (roomN f : Int) > 0 by omega)]; rfl
      simp only [e1, Bool.false_eq_true, if_false]
      refine ev_bind (iFree_ev f hn hk) (free ((i : Int), (t : Int), true) _ ?_)
      -- what is written at the place
      have hs1 : (⟨#[120]⟩ : ByteArray).size = 1 := rfl
      have ok : progOk f (i : Int) (t : Int) ⟨#[120]⟩ = true := by
        unfold progOk useB
        rw [Int.toNat_natCast, hf, hb, ht, hs1]
        simp only [Bool.true_and, Bool.not_false, Bool.and_true, Bool.and_eq_true, decide_eq_true_eq]
        exact ⟨⟨by omega, by omega⟩, ⟨by omega, by omega⟩, trivial, by omega, by omega⟩
      have hpr := sProgram_ev f (i : Int) (t : Int) ⟨#[120]⟩ hn hk
      have hq := prog_right (i : Int) (t : Int) ⟨#[120]⟩ hf
      have e2 : programB f (i : Int) (t : Int) ⟨#[120]⟩ = (f.set i ⟨(f.getD i z49).f0, (f.getD i z49).f1, (f.getD i z49).f2.set t ⟨1, ⟨#[120]⟩⟩⟩, true) := by
        unfold programB
        rw [if_pos ok]; rfl
      rw [e2] at hpr hq
      obtain ⟨gn, gk⟩ := flash_small hq.1
      have hroom : roomN (f.set i ⟨(f.getD i z49).f0, (f.getD i z49).f1, (f.getD i z49).f2.set t ⟨1, ⟨#[120]⟩⟩⟩) + 1 = roomN f := by
        have h5 := room_set f i ⟨(f.getD i z49).f0, (f.getD i z49).f1, (f.getD i z49).f2.set t ⟨1, ⟨#[120]⟩⟩⟩ hi
        have h6 := blanks_set (f.getD i z49).f2 t ⟨1, ⟨#[120]⟩⟩ (by have := h4 i hi; omega) (by
          rcases next_spec (f.getD i z49).f2 with ⟨n4, _⟩ | ⟨j, _, n1, n2, _⟩
          · omega
          · rw [show t = j by omega]; exact n2) rfl
        unfold blkN at h5
        simp only [hb, Bool.false_eq_true, if_false] at h5 h6
        rw [hb]
        omega
      refine Ev.step (f := fun k => (spec_Program.f k f (i : Int) (t : Int) ⟨#[120]⟩).bind fun bt318 => if bt318.2 = true then (impl_RoomOf.f k bt318.1).bind fun t323 => (if t323 = (wrap64 ((roomN f : Int) - 1)) then ((impl_OpenBlock.f k f).bind fun t324 => (if t324 = (-1) then ((laws_in.f k (freeL f) (i : Int)).bind fun t325 => (if t325 = true then (some true) else ((impl_OpenBlock.f k f).bind fun t326 => (some (t326 == (i : Int)))))) else ((impl_OpenBlock.f k f).bind fun t327 => (some (t327 == (i : Int)))))) else (some false)) else some false) (fun k => by simp only [laws_FnPlacesOf.l0]; rw [if_neg (by omega)]; rfl) (ev_bind hpr ?_)
      simp only [if_true]
      refine ev_bind (iRoomOf_ev _ gn gk) ?_
      simp only [if_pos (show ((roomN (f.set i ⟨(f.getD i z49).f0, (f.getD i z49).f1, (f.getD i z49).f2.set t ⟨1, ⟨#[120]⟩⟩⟩) : Nat) : Int) = wrap64 ((roomN f : Int) - 1) by rw [w64 (by omega) (by omega)]; omega)]
      refine ev_bind (iOpen_ev f hn hk) ?_
      rcases hof with ho | ⟨ho, hm⟩
      · rw [ho]
        simp only [if_neg (show ¬ (i : Int) = -1 by omega)]
        refine ev_bind (iOpen_ev f hn hk) ?_
        rw [ho, beq_self_eq_true]
        exact Ev.now _
      · rw [ho]
        simp only [if_true]
        refine ev_bind (inL_ev _ _ (by omega) hm) ?_
        simp only [if_true]
        exact Ev.now _
end Go.Proofs.Ytcpgpchdplpfiaa.Pure

/- Functions of the translation as plain Lean functions, and for each that its call comes to just what its Lean function answers; its conditions stand in each theorem. Written by a program of this session. -/
namespace Go.Proofs.Ytcpgpchdplpfiaa.fnPlacesOf
open Go.ChangeShapes Go.WideShapes Go.ChangeAt Go.RowKit
open Go.ChangeMaps (open_string shut_string)
set_option linter.unusedVariables false
theorem own : ownKnob Try.prog.godebug = none := by kernel_rfl
theorem laidOut : laidOutB Try.prog = true := by kernel_rfl
def IsRow (k : IntKind) (w : World) (a : Option Addr) (len cap : Nat) (zs : List Int) : Prop :=
  (a = none ∧ len = 0 ∧ cap = 0 ∧ zs = []) ∨
  ∃ x, a = some x ∧ len ≤ cap ∧ cap ≤ maxLen ∧ zs.length = cap ∧ (∀ i, i < zs.length → w.cell? (x.add i) = some (.int k (zs.getD i 0))) ∧ ∀ n ∈ zs, (Lit.int k n).wf = true
set_option maxRecDepth 100000 in
theorem lifted (os : Os) (started : os.Started) (H : Type) (enc : TypeId × Value → H) :
    ReturnsInHanded {} Try.checked os 5 .any (Rows.fnPlacesOfSpec.pre6 enc Try.prog Try.f5 Rows.fnPlacesOfRow.domain false) (Rows.fnPlacesOfSpec.post enc Try.prog Try.f5 false true false false) := by
  refine returnsInHanded_of_change_sized (C := Try.checked) own started (by kernel_rfl) Try.func5
    (ChangeSpec.witness6 (enc := enc) (C := Try.checked) false ⟨#[], #[.slice none 0 0], []⟩ 8 (by kernel_rfl) (by kernel_rfl) (by kernel_rfl) (by kernel_rfl)) ?_
  intro W base args ds gs before hval0 hW hcnd hsz0 _
  have hsz : (DataW.weightsEach Try.prog (Try.f5.params.toList ++ Rows.fnPlacesOfSpec.plain.varTypes Try.prog) (ds ++ gs)).all (· ≤ reachBytes) = true := hsz0
  have hval : ∀ (j : Nat) t v, Try.f5.params[j]? = some t → args[j]? = some v → Value.okWide Try.prog W .any base t v := hval0
  have hW' := hW
  obtain ⟨p, q, hA0, hV, rfl, hfz, hnd⟩ := hW
  have hA : DataW.TrodAll enc Try.prog W 0 (fun _ => true) true Try.f5.params.toList args.toList ds p := hA0
  rw [Try.params5] at hA hval hsz
  obtain ⟨v0, vs0, d0, ds0, p0, q0, hargs, rfl, rfl, h0, r0⟩ := trodAll_cons hA
  obtain ⟨rfl, rfl, rfl⟩ := trodAll_nil r0
  obtain rfl : args = #[v0] := by cases args; simp_all
  obtain ⟨rfl, rfl⟩ := trodVars_none hV
  obtain ⟨a0, len0, cap0, rfl⟩ := okWide_slice Try.underlying28 (hval 0 28 v0 rfl rfl)
  have k0 := h0
  have lt0 : ∀ x ∈ p0, x.block < W.heap.size := by obtain ⟨m, hm⟩ := k0; exact DataW.trod_lt m _ _ _ hm
  obtain ⟨z0, w0⟩ : ∃ zs, IsRow .u8 W a0 len0 cap0 zs := by
    obtain ⟨fuel, hf⟩ := h0
    rcases open_ints Try.underlying28 Try.underlying5 (by kernel_rfl) hf with ⟨hcs, _⟩ | ⟨x, l, c, zs, hcs, _, hl, hm, hz, _, hcell, hwz⟩
    · simp [Value.cells] at hcs
      obtain ⟨rfl, rfl, rfl⟩ := hcs
      exact ⟨[], .inl ⟨rfl, rfl, rfl, rfl⟩⟩
    · simp [Value.cells] at hcs
      obtain ⟨rfl, rfl, rfl⟩ := hcs
      exact ⟨zs, .inr ⟨_, rfl, hl, hm, by simpa using hz, hcell, hwz⟩⟩
  have y0 : len0 * 1 ≤ 140737488351232 := Go.Proofs.YtcpgpchdplpfiaaW.PrintWords.sized_ints hsz (j := 0) (t := 28) rfl rfl Try.underlying28 Try.underlying5 (by kernel_rfl) (by kernel_rfl) h0
  clear hA0 hval0 hsz0 hsz
  refine (PF.laws_FnPlacesOf.walk Pure.FnPlacesOf a0 len0 cap0 z0 W w0 y0).mono fun e W' ⟨he, bel⟩ => ?_
  subst he
  exact ⟨_, rfl, _, _, _, [], _, [], hW', trodAll_mk1 (shut_bool Try.underlying4 _), (trodAll_cons_mk (Below.trod laidOut (by kernel_rfl) (of_decide_eq_true (by kernel_rfl)) k0 bel lt0) trodAll_mk0), rfl, bel.frame _, fun h => by cases h⟩
theorem over : Rows.fnPlacesOfRow.holds Try.pinned (OpenSpec.ofChange Rows.fnPlacesOfSpec) :=
  OpenClaim.holds_of_wide 5 Try.f5 rfl rfl rfl rfl rfl rfl rfl ⟨rfl, rfl, rfl, rfl, rfl⟩ rfl rfl rfl rfl rfl (by kernel_rfl) Try.func5 (by kernel_rfl)
    (of_decide_eq_true (by kernel_rfl)) (by unfold Func.isWrapper; first | (rw [if_pos (by decide +kernel)]; kernel_rfl) | (rw [if_neg (by decide +kernel)]; exact ⟨rfl, rfl⟩))
    (fun os started H enc _ => lifted os started H enc)
theorem proved : Rows.FnPlacesOfSaid := over
#print axioms proved
end Go.Proofs.Ytcpgpchdplpfiaa.fnPlacesOf
namespace Go.Proofs.Ytcpgpchdplpfiaa
/-- The row, under a short name, for the claim. -/
theorem fnPlacesOf_holds : Rows.FnPlacesOfSaid := fnPlacesOf.proved
end Go.Proofs.Ytcpgpchdplpfiaa
