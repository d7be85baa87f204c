/- FnExactFreeBlocks: functions of the translation as Lean functions with what their calls come to, plain lemmas on them, and, at the end, the row. Parts of one proof, merged by a program of this session; each part's own sentence stands at its head. -/
import Derived.ChangeArms
import Derived.DataReads
import Derived.Test.YtijbejiajaiciaaMFnExactFreeBlocksa
/- Functions of the translation as plain Lean functions, and for each that its call comes to just what its Lean function answers; its conditions stand in each theorem. Written by a program of this session. -/
namespace Go.Proofs.Ytijbejiajaiciaa.PC
open Go.RowKit Go.Proofs.YtijbejiajaiciaaW.PrintWords Go.Proofs.YtijbejiajaiciaaW.PrintLast Go.Proofs.YtijbejiajaiciaaW.PrintMore
attribute [local go_sem] max2_int min2_int max_two min_two max_three min_three max_four min_four   -- for this text's walks alone
set_option linter.unusedVariables false
set_option linter.unusedSimpArgs false

/-! ### impl_FreeBlocks: function 34 -/
def impl_FreeBlocks.l0 : Nat → List Int → List (S112) → Int → Int → Option (List Int)
  | 0, _, _, _, _ => none
  | k + 1, x3, x7, x8, x9 => if x9 < x8 then (if 0 ≤ x9 then (if x9 < (x7.length : Int) then (if ((rd_T112 x7 x9).f0 = true) then (impl_FreeBlocks.l0 k x3 x7 x8 (wrap64 (x9 + 1))) else ((impl_blanks.f k ((rd_T112 x7 x9).f0) ((rd_T112 x7 x9).f1) ((rd_T112 x7 x9).f2)).bind fun t431 => (if t431 = (((rd_T112 x7 x9).f2).length : Int) then (if x3.length < 17592186044416 then (impl_FreeBlocks.l0 k (x3 ++ [x9]) x7 x8 (wrap64 (x9 + 1))) else (none)) else (impl_FreeBlocks.l0 k x3 x7 x8 (wrap64 (x9 + 1)))))) else (none)) else (none)) else (some x3)
def impl_FreeBlocks.f (k : Nat) (l0_0 : List (S112)) : Option (List Int) := impl_FreeBlocks.l0 k ([] : List Int) l0_0 (l0_0.length : Int) 0
theorem impl_FreeBlocks.mono_l : ∀ k, (∀ y0 y1 y2 y3, LeO (impl_FreeBlocks.l0 k y0 y1 y2 y3) (impl_FreeBlocks.l0 (k + 1) y0 y1 y2 y3))
  | 0 => fun _ _ _ _ r h => by simp [impl_FreeBlocks.l0] at h
  | k + 1 => by
    have ih0 := impl_FreeBlocks.mono_l k
    · intro y0 y1 y2 y3
      unfold impl_FreeBlocks.l0
      repeat' first
      | (with_reducible exact ih0 _ _ _ _)
      | (with_reducible exact impl_blanks.mono _ _ _ _)
      | (with_reducible exact LeO.refl _)
      | (with_reducible exact LeO.none _)
      | (with_reducible refine LeO.ite ?_ ?_)
      | (with_reducible refine LeO.bind ?_ (fun _ => ?_))
      | exact ih0 _ _ _ _
      | exact impl_blanks.mono _ _ _ _
      | exact LeO.none _
      | refine LeO.ite ?_ ?_
      | refine LeO.bind ?_ (fun _ => ?_)
theorem impl_FreeBlocks.mono : ∀ a0 k, LeO (impl_FreeBlocks.f k a0) (impl_FreeBlocks.f (k + 1) a0) := by
  intro a0 k
  have ih0 := impl_FreeBlocks.mono_l k
  unfold impl_FreeBlocks.f
  repeat' first
      | (with_reducible exact ih0 _ _ _ _)
      | (with_reducible exact impl_blanks.mono _ _ _ _)
      | (with_reducible exact LeO.refl _)
      | (with_reducible exact LeO.none _)
      | (with_reducible refine LeO.ite ?_ ?_)
      | (with_reducible refine LeO.bind ?_ (fun _ => ?_))
      | exact ih0 _ _ _ _
      | exact impl_blanks.mono _ _ _ _
      | exact LeO.none _
      | refine LeO.ite ?_ ?_
      | refine LeO.bind ?_ (fun _ => ?_)
def impl_FreeBlocks.T5 : Bool × List (List Nat × List Nat) := (true, [([], []), ([0], [0]), ([1], [1]), ([2], [2]), ([3], [3]), ([4, 3, 3], [3, 4]), ([3], [3]), ([6, 3], [3, 6]), ([7, 3], [3, 7]), ([5, 8, 3], [3, 5, 8]), ([3, 9], [3, 9])])
def impl_FreeBlocks.B5 : List Nat := [0, 1, 3, 7, 15, 31, 15, 79, 207, 511, 1023]
theorem impl_FreeBlocks.tab5 : rtab .any (opsOf Try.f34 5) = impl_FreeBlocks.T5 := by kernel_rfl
theorem impl_FreeBlocks.bits5 : waitsOk impl_FreeBlocks.T5.2 impl_FreeBlocks.B5 = true := by kernel_rfl
set_option maxHeartbeats 8000000 in
set_option maxRecDepth 100000 in
theorem impl_FreeBlocks.calls (k : Nat) (A0_0 : Option Addr) (c0_0 : Nat) (l0_0 : List (S112)) (r : List Int) (w : World) (hr0_0 : Kd.C k112 w A0_0 l0_0.length l0_0) (hc0_0 : l0_0.length ≤ c0_0) (h : impl_FreeBlocks.f k l0_0 = some r) :
    Calls Try.prog 34 #[.agg #[.slice A0_0 l0_0.length c0_0]] w fun e w' => ∃ v0_ : Value, e = .returned (v0_) ∧ Kd.R (Kd.int .i64) 3 w' w.heap.size (fun _ => True) v0_ r ∧ Below w.heap.size w w' := by
  have hu59 := Try.underlying59
  have hu112 := Try.underlying112
  have HR0_0 := Aside0.mk hr0_0
  have HC0_0 := Aside0.mk hc0_0
  clear hr0_0 hc0_0
  have HB := Aside0.mk (Below.refl w.heap.size w)
  have H : (impl_FreeBlocks.l0 k ([] : List Int) l0_0 (l0_0.length : Int) 0) = some r := h
  clear h
  have H' := Aside0.mk H
  clear H
  go_enter Try.func34, Try.ntmps34
  go_wp2_with (first | ((with_reducible refine gate_dst (N := 1) rfl ?_); (try (refine gate_guard (by rfl) ?_; dsimp only)); refine box_event ?hg (N := 1) ?hd (cs := #[.slice A0_0 l0_0.length c0_0]) (t := 59) ?hr ?_; (case hd => rfl); (case hg => rfl); (case hr => first | (go_simp; done) | (go_simp; rfl)); intro gb428 hg w2 hbox hb; have n0_ := Aside0.mk (below_step (by repeat (first | (with_reducible first | exact HB.out | apply below_alloc | apply pw_below_drewN | apply below_drew1) | exact HB.out)) hb); have n1_ := Aside0.mk (hbox); have n2_ := Aside0.mk ((by rw [hg]; exact (below_size (by repeat (first | (with_reducible first | exact HB.out | apply below_alloc | apply pw_below_drewN | apply below_drew1) | exact HB.out))) : w.heap.size ≤ gb428)); have n3_ := Aside0.mk ((by rw [hg]; exact (below_size (by repeat (first | (with_reducible first | exact HB.out | apply below_alloc | apply pw_below_drewN | apply below_drew1) | exact HB.out))) : w.heap.size ≤ gb428)); clear HB; have HB := n0_; have BK428 := n1_; have GW428 := n2_; have GE428 := n3_; clear n0_ n1_ n2_ n3_; clear hb hbox hg; have hcz3_0 : w2.cell? ⟨gb428, 0, none⟩ = some (.slice A0_0 l0_0.length c0_0) := (blk_cell BK428.out 0).trans rfl; have hfz3_0 := blk_frozen BK428.out 0))
  go_loopg [3, 9] k (fun kq v3 v9 w' => ∃ (x3_1 : List Int) (x9_1 : Int), v9 = .int .i64 x9_1 ∧ Aside0 (impl_FreeBlocks.l0 kq x3_1 l0_0 (l0_0.length : Int) x9_1 = some r) ∧ Aside0 (kq ≤ k) ∧ Aside0 (Kd.R (Kd.int .i64) 3 w' w.heap.size (fun _ => True) v3 x3_1) ∧ Aside0 (w'.heap[gb428]? = some (.cells #[(.slice A0_0 l0_0.length c0_0)] 59 (0, 0))) ∧ Aside0 (Below w.heap.size w w'))
  case atStart => exact ⟨(([] : List Int)), (0), (by first | rfl | (simp; done) | (simp [*]; done)), H', ⟨Nat.le_refl _⟩, ⟨by first | exact Kd.R_nil _ _ _ _ _ | exact Kd.N_nil _ _ _ _ _ | exact Kd.V_nil _ _ _ _ _ | exact Kd.Q_nil _ _ _ _ _ | exact Kd.S_nil _ _ _ _ _⟩, ⟨by (with_reducible repeat (first | refine blk_drewN ?_ _ | refine blk_drew ?_ | refine blk_alloc ?_ _)); exact BK428.out⟩, ⟨by repeat (first | (with_reducible first | exact HB.out | apply below_alloc | apply pw_below_drewN | apply below_drew1 | refine below_set ?_ GE428.out) | exact HB.out)⟩⟩
  case round =>
    clear H'
    try clear p2
    try clear c3
    try clear hcz3_0
    try clear hfz3_0
    obtain ⟨x3_1, x9_1, rfl, HA, HK1, HO_3, BK428, HB⟩ := hrel
    cases gk with
    | zero => exact absurd HA.out (by simp [impl_FreeBlocks.l0])
    | succ k1 =>
      have H := HA.out
      clear HA
      simp only [impl_FreeBlocks.l0] at H
      by_cases c4 : x9_1 < (l0_0.length : Int)
      · rw [if_pos c4] at H
        have c4b0 : decide (x9_1 < (l0_0.length : Int)) = true := decide_eq_true c4
        clear c4
        by_cases c5 : 0 ≤ x9_1
        · rw [if_pos c5] at H
          have c5b0 : decide (0 ≤ x9_1) = true := decide_eq_true c5
          clear c5
          by_cases c6 : x9_1 < (l0_0.length : Int)
          · rw [if_pos c6] at H
            have c6b0 : decide (x9_1 < (l0_0.length : Int)) = true := decide_eq_true c6
            clear c6
            obtain ⟨bq7, hbq7⟩ : ∃ b_ : Bool, b_ = ((rd_T112 l0_0 x9_1).f0) := ⟨_, rfl⟩
            replace H : (if (bq7 = true) then (impl_FreeBlocks.l0 k1 x3_1 l0_0 (l0_0.length : Int) (wrap64 (x9_1 + 1))) else ((impl_blanks.f k1 (bq7) ((rd_T112 l0_0 x9_1).f1) ((rd_T112 l0_0 x9_1).f2)).bind fun t431 => (if t431 = (((rd_T112 l0_0 x9_1).f2).length : Int) then (if x3_1.length < 17592186044416 then (impl_FreeBlocks.l0 k1 (x3_1 ++ [x9_1]) l0_0 (l0_0.length : Int) (wrap64 (x9_1 + 1))) else (none)) else (impl_FreeBlocks.l0 k1 x3_1 l0_0 (l0_0.length : Int) (wrap64 (x9_1 + 1)))))) = some r := by rw [← hbq7] at H; exact H
            have Nbq7 := Aside0.mk hbq7
            clear hbq7
            by_cases c8 : (bq7 = true)
            · subst c8
              have H1 : (impl_FreeBlocks.l0 k1 x3_1 l0_0 (l0_0.length : Int) (wrap64 (x9_1 + 1))) = some r := by rw [if_pos rfl] at H; exact H
              clear H
              have H := H1
              clear H1
              have H' := Aside0.mk H
              clear H
              have p429 : 0 ≤ (x9_1 : Int) := of_decide_eq_true (by first | (with_reducible assumption) | assumption)
              have q429 : x9_1 < (l0_0.length : Int) := of_decide_eq_true (by first | (with_reducible assumption) | assumption)
              obtain ⟨ad429, A429_2, c429_2, e429, hx429_0, hx429_1, hx429_2, hl429_2, hi429_2⟩ := at_T112 HR0_0.out x9_1 p429 q429
              (try rw [← Nbq7.out] at hx429_0)
              cases e429
              replace hx429_0 := (HB.out.cell (World.block_lt_of_cell? w _ hx429_0)).trans hx429_0
              replace hx429_1 := (HB.out.cell (World.block_lt_of_cell? w _ hx429_1)).trans hx429_1
              replace hx429_2 := (HB.out.cell (World.block_lt_of_cell? w _ hx429_2)).trans hx429_2
              have HR429_2 := Aside0.mk hi429_2
              have HC429_2 := Aside0.mk hl429_2
              clear hi429_2 hl429_2
              replace p429 := eq_true p429
              replace q429 := eq_true q429
              try go_wp2_with (first | ((with_reducible refine gate_dst (N := 5) rfl ?_); (try (refine gate_guard (by rfl) ?_; dsimp only)); refine box_event ?hg (N := 5) ?hd (cs := #[.bool false, .int .i64 0, .slice none 0 0]) (t := 112) ?hr ?_; (case hd => rfl); (case hg => rfl); (case hr => first | (go_simp; done) | (go_simp; rfl)); intro gb430 hg w9 hbox hb; have n0_ := Aside0.mk (Kd.R_below (by (with_reducible repeat (first | apply Kd.R_alloc | apply Kd.R_drewN | apply Kd.R_drew)); exact HO_3.out) hb); have n1_ := Aside0.mk (blk_below (g := gb428) (o := .cells #[.slice (some ad429) l0_0.length c0_0] 59 (0, 0)) (by (with_reducible repeat (first | refine blk_drewN ?_ _ | refine blk_drew ?_ | refine blk_alloc ?_ _)); exact BK428.out) hb); have n2_ := Aside0.mk (below_step (by repeat (first | (with_reducible first | exact HB.out | apply below_alloc | apply pw_below_drewN | apply below_drew1 | refine below_set ?_ GE428.out) | exact HB.out)) hb); have n3_ := Aside0.mk (hbox); have n4_ := Aside0.mk ((by rw [hg]; exact (below_size (by repeat (first | (with_reducible first | exact HB.out | apply below_alloc | apply pw_below_drewN | apply below_drew1 | refine below_set ?_ GE428.out) | exact HB.out))) : w.heap.size ≤ gb430)); have n5_ := Aside0.mk ((by rw [hg]; exact (below_size (by repeat (first | (with_reducible first | exact HB.out | apply below_alloc | apply pw_below_drewN | apply below_drew1 | refine below_set ?_ GE428.out) | exact HB.out))) : w.heap.size ≤ gb430)); have n6_ := Aside0.mk ((by rw [hg]; exact Nat.ne_of_lt (blk_lt (g := gb428) (o := .cells #[.slice (some ad429) l0_0.length c0_0] 59 (0, 0)) (by (with_reducible repeat (first | refine blk_drewN ?_ _ | refine blk_drew ?_ | refine blk_alloc ?_ _)); exact BK428.out)) : gb428 ≠ gb430)); have n7_ := Aside0.mk ((by rw [hg]; exact Nat.ne_of_gt (blk_lt (g := gb428) (o := .cells #[.slice (some ad429) l0_0.length c0_0] 59 (0, 0)) (by (with_reducible repeat (first | refine blk_drewN ?_ _ | refine blk_drew ?_ | refine blk_alloc ?_ _)); exact BK428.out)) : gb430 ≠ gb428)); clear HO_3; clear BK428; clear HB; have HO_3 := n0_; have BK428 := n1_; have HB := n2_; have BK430 := n3_; have GW430 := n4_; have GE430 := n5_; have NB428_430 := n6_; have NB430_428 := n7_; clear n0_ n1_ n2_ n3_ n4_ n5_ n6_ n7_; clear hb hbox hg; have hnb10 := NB430_428.out; have hnc10 := NB428_430.out; have hcz11_0 : w9.cell? ⟨gb430, 0, none⟩ = some (.bool false) := (blk_cell BK430.out 0).trans rfl; have hcz11_1 : w9.cell? ⟨gb430, 1, none⟩ = some (.int .i64 0) := (blk_cell BK430.out 1).trans rfl; have hcz11_2 : w9.cell? ⟨gb430, 2, none⟩ = some (.slice none 0 0) := (blk_cell BK430.out 2).trans rfl; have hfz11_0 := blk_frozen BK430.out 0; have hfz11_1 := blk_frozen BK430.out 1; have hfz11_2 := blk_frozen BK430.out 2))
              have n0_ : Aside0 (Kd.R (Kd.int .i64) 3 (((w9.setCell ⟨gb430, 0, none⟩ (.bool true)).setCell ⟨gb430, 1, none⟩ (.int .i64 ((rd_T112 l0_0 x9_1).f1))).setCell ⟨gb430, 2, none⟩ (.slice A429_2 ((rd_T112 l0_0 x9_1).f2).length c429_2)) w.heap.size (fun _ => True) u3 x3_1) := ⟨by (with_reducible repeat (first | apply Kd.R_alloc | apply Kd.R_drewN | apply Kd.R_drew)); exact Kd.R_mono (Kd.R_far (p := ⟨gb430, 2, none⟩) (Kd.R_far (p := ⟨gb430, 1, none⟩) (Kd.R_far (p := ⟨gb430, 0, none⟩) (Kd.R_types HO_3.out BK430.out (by decide)) (fun _ hk => hk.2) (.bool true)) (fun _ hk => hk.2) (.int .i64 ((rd_T112 l0_0 x9_1).f1))) (fun _ hk => hk.2) (.slice A429_2 ((rd_T112 l0_0 x9_1).f2).length c429_2)) (fun _ hk => trivial)⟩
              have n1_ : Aside0 ((((w9.setCell ⟨gb430, 0, none⟩ (.bool true)).setCell ⟨gb430, 1, none⟩ (.int .i64 ((rd_T112 l0_0 x9_1).f1))).setCell ⟨gb430, 2, none⟩ (.slice A429_2 ((rd_T112 l0_0 x9_1).f2).length c429_2)).heap[gb428]? = some (.cells #[.slice (some ad429) l0_0.length c0_0] 59 (0, 0))) := ⟨by (with_reducible repeat (first | refine blk_drewN ?_ _ | refine blk_drew ?_ | refine blk_alloc ?_ _)); refine blk_far ?_ NB428_430.out _; (with_reducible repeat (first | refine blk_drewN ?_ _ | refine blk_drew ?_ | refine blk_alloc ?_ _)); refine blk_far ?_ NB428_430.out _; (with_reducible repeat (first | refine blk_drewN ?_ _ | refine blk_drew ?_ | refine blk_alloc ?_ _)); refine blk_far ?_ NB428_430.out _; (with_reducible repeat (first | refine blk_drewN ?_ _ | refine blk_drew ?_ | refine blk_alloc ?_ _)); exact BK428.out⟩
              have n2_ : Aside0 ((((w9.setCell ⟨gb430, 0, none⟩ (.bool true)).setCell ⟨gb430, 1, none⟩ (.int .i64 ((rd_T112 l0_0 x9_1).f1))).setCell ⟨gb430, 2, none⟩ (.slice A429_2 ((rd_T112 l0_0 x9_1).f2).length c429_2)).heap[gb430]? = some (.cells #[.bool true, .int .i64 ((rd_T112 l0_0 x9_1).f1), .slice A429_2 ((rd_T112 l0_0 x9_1).f2).length c429_2] 112 (0, 0))) := ⟨by (with_reducible repeat (first | refine blk_drewN ?_ _ | refine blk_drew ?_ | refine blk_alloc ?_ _)); refine blk_put (cs := #[.bool true, .int .i64 ((rd_T112 l0_0 x9_1).f1), .slice none 0 0]) ?_ 2 _ rfl; (with_reducible repeat (first | refine blk_drewN ?_ _ | refine blk_drew ?_ | refine blk_alloc ?_ _)); refine blk_put (cs := #[.bool true, .int .i64 0, .slice none 0 0]) ?_ 1 _ rfl; (with_reducible repeat (first | refine blk_drewN ?_ _ | refine blk_drew ?_ | refine blk_alloc ?_ _)); refine blk_put (cs := #[.bool false, .int .i64 0, .slice none 0 0]) ?_ 0 _ rfl; (with_reducible repeat (first | refine blk_drewN ?_ _ | refine blk_drew ?_ | refine blk_alloc ?_ _)); exact BK430.out⟩
              have n3_ : Aside0 (Below w.heap.size w (((w9.setCell ⟨gb430, 0, none⟩ (.bool true)).setCell ⟨gb430, 1, none⟩ (.int .i64 ((rd_T112 l0_0 x9_1).f1))).setCell ⟨gb430, 2, none⟩ (.slice A429_2 ((rd_T112 l0_0 x9_1).f2).length c429_2))) := ⟨by repeat (first | (with_reducible first | exact HB.out | apply below_alloc | apply pw_below_drewN | apply below_drew1 | refine below_set ?_ GE428.out | refine below_set ?_ GE430.out) | exact HB.out)⟩
              (try clear HO_3)
              (try clear BK428)
              (try clear BK430)
              (try clear HB)
              generalize (((w9.setCell ⟨gb430, 0, none⟩ (.bool true)).setCell ⟨gb430, 1, none⟩ (.int .i64 ((rd_T112 l0_0 x9_1).f1))).setCell ⟨gb430, 2, none⟩ (.slice A429_2 ((rd_T112 l0_0 x9_1).f2).length c429_2)) = w12 at n0_ n1_ n2_ n3_ ⊢
              have HO_3 := n0_
              have BK428 := n1_
              have BK430 := n2_
              have HB := n3_
              clear n0_ n1_ n2_ n3_
              have n0_ := Aside0.mk (Kd.R_drew HO_3.out)
              have n1_ := Aside0.mk (blk_drew BK428.out)
              have n2_ := Aside0.mk (blk_drew BK430.out)
              have n3_ := Aside0.mk (below_drew1 HB.out)
              clear HO_3
              clear BK428
              clear BK430
              clear HB
              have HO_3 := n0_
              have BK428 := n1_
              have BK430 := n2_
              have HB := n3_
              clear n0_ n1_ n2_ n3_
              refine start_ (n := 11) (S := fun w' => w'.cell? ⟨gb430, 0, none⟩ = some (.bool true) ∧ w'.cell? ⟨gb430, 1, none⟩ = some (.int .i64 ((rd_T112 l0_0 x9_1).f1)) ∧ w'.cell? ⟨gb430, 2, none⟩ = some (.slice A429_2 ((rd_T112 l0_0 x9_1).f2).length c429_2)) (ds := []) #[false, false, false, false, false, false, false, false, false, false, false] (by kernel_rfl) rfl rfl ⟨(blk_cell BK430.out 0).trans rfl, (blk_cell BK430.out 1).trans rfl, (blk_cell BK430.out 2).trans rfl⟩ (fun hHeld => ?_); refine with_tabW impl_FreeBlocks.tab5 impl_FreeBlocks.bits5 (fun HT_ HW_ => ?_)
              generalize w12.drew = w13 at HO_3 BK428 BK430 HB hHeld ⊢
              refine pure_ (i := 0) (N := some 14) (v := ?_) (a' := ?_) #[true, false, false, false, false, false, false, false, false, false, false] rfl rfl (any_of HT_.out (by kernel_rfl)) (fun _ _ _ h => h) (Or.inl ⟨by rfl, ?_⟩) ?_ ?_
              rotate_left
              · intro w'
                go_simp
                with_reducible rfl
              rotate_left
              · simp only [Act.put, List.setIfInBounds_toArray, List.set_cons_zero, List.set_cons_succ, i64_w, i32_w]
                rfl
              refine take_ (i := 1) (N := some 15) (v := ?_) (a' := ?_) #[true, true, false, false, false, false, false, false, false, false, false] rfl rfl (take_ofW HT_.out HW_.out (by kernel_rfl)) (fun _ _ _ h => h) (Or.inl ⟨by rfl, ?_⟩) hHeld ?_ ?_
              rotate_left
              · rintro w' ⟨s0, s1, s2⟩
                go_simp
                with_reducible rfl
              rotate_left
              · simp only [Act.put, List.setIfInBounds_toArray, List.set_cons_zero, List.set_cons_succ, i64_w, i32_w]
                rfl
              refine pure_ (i := 2) (N := some 16) (v := ?_) (a' := ?_) #[true, true, true, false, false, false, false, false, false, false, false] rfl rfl (any_of HT_.out (by kernel_rfl)) (fun _ _ _ h => h) (Or.inl ⟨by rfl, ?_⟩) ?_ ?_
              rotate_left
              · intro w'
                go_simp
                with_reducible rfl
              rotate_left
              · simp only [Act.put, List.setIfInBounds_toArray, List.set_cons_zero, List.set_cons_succ, i64_w, i32_w]
                rfl
              refine pure_ (i := 3) (N := some 17) (v := ?_) (a' := ?_) #[true, true, true, true, false, false, false, false, false, false, false] rfl rfl (any_of HT_.out (by kernel_rfl)) (fun _ _ _ h => h) (Or.inl ⟨by rfl, ?_⟩) ?_ ?_
              rotate_left
              · intro w'
                go_simp
                with_reducible rfl
              rotate_left
              · simp only [Act.put, List.setIfInBounds_toArray, List.set_cons_zero, List.set_cons_succ, i64_w, i32_w]
                rfl
              refine pure_ (i := 4) (N := some 18) (v := undef) (a' := ?_) #[true, true, true, true, true, false, false, false, false, false, false] rfl rfl (any_of HT_.out (by kernel_rfl)) (fun _ _ _ h => h) (Or.inr ⟨by rfl, rfl⟩) ?_ ?_
              rotate_left
              · simp only [Act.put, List.setIfInBounds_toArray, List.set_cons_zero, List.set_cons_succ, i64_w, i32_w]
                rfl
              refine pure_ (i := 5) (N := some 19) (v := undef) (a' := ?_) #[true, true, true, true, true, true, false, false, false, false, false] rfl rfl (any_of HT_.out (by kernel_rfl)) (fun _ _ _ h => h) (Or.inr ⟨by rfl, rfl⟩) ?_ ?_
              rotate_left
              · simp only [Act.put, List.setIfInBounds_toArray, List.set_cons_zero, List.set_cons_succ, i64_w, i32_w]
                rfl
              refine pure_ (i := 6) (N := some 20) (v := undef) (a' := ?_) #[true, true, true, true, true, true, true, false, false, false, false] rfl rfl (any_of HT_.out (by kernel_rfl)) (fun _ _ _ h => h) (Or.inr ⟨by rfl, rfl⟩) ?_ ?_
              rotate_left
              · simp only [Act.put, List.setIfInBounds_toArray, List.set_cons_zero, List.set_cons_succ, i64_w, i32_w]
                rfl
              refine pure_ (i := 7) (N := some 21) (v := undef) (a' := ?_) #[true, true, true, true, true, true, true, true, false, false, false] rfl rfl (any_of HT_.out (by kernel_rfl)) (fun _ _ _ h => h) (Or.inr ⟨by rfl, rfl⟩) ?_ ?_
              rotate_left
              · simp only [Act.put, List.setIfInBounds_toArray, List.set_cons_zero, List.set_cons_succ, i64_w, i32_w]
                rfl
              refine pure_ (i := 8) (N := some 22) (v := undef) (a' := ?_) #[true, true, true, true, true, true, true, true, true, false, false] rfl rfl (any_of HT_.out (by kernel_rfl)) (fun _ _ _ h => h) (Or.inr ⟨by rfl, rfl⟩) ?_ ?_
              rotate_left
              · simp only [Act.put, List.setIfInBounds_toArray, List.set_cons_zero, List.set_cons_succ, i64_w, i32_w]
                rfl
              refine pure_ (i := 9) (N := some 23) (v := undef) (a' := ?_) #[true, true, true, true, true, true, true, true, true, true, false] rfl rfl (any_of HT_.out (by kernel_rfl)) (fun _ _ _ h => h) (Or.inr ⟨by rfl, rfl⟩) ?_ ?_
              rotate_left
              · simp only [Act.put, List.setIfInBounds_toArray, List.set_cons_zero, List.set_cons_succ, i64_w, i32_w]
                rfl
              refine pure_ (i := 10) (N := some 24) (v := ?_) (a' := ?_) #[true, true, true, true, true, true, true, true, true, true, true] rfl rfl (any_of HT_.out (by kernel_rfl)) (fun _ _ _ h => h) (Or.inl ⟨by rfl, ?_⟩) ?_ ?_
              rotate_left
              · intro w'
                go_simp
                with_reducible rfl
              rotate_left
              · simp only [Act.put, List.setIfInBounds_toArray, List.set_cons_zero, List.set_cons_succ, i64_w, i32_w]
                rfl
              refine done_ (done_of HT_.out (by kernel_rfl)) ?_
              try go_wp2
              go_roundg k1
              case measure => have := HK1.out; omega
              case rel => exact ⟨(x3_1), (wrap64 (x9_1 + 1)), (by first | rfl | (simp; done) | (simp [*]; done)), H', ⟨by have := HK1.out; omega⟩, ⟨by (with_reducible repeat (first | apply Kd.R_alloc | apply Kd.R_drewN | apply Kd.R_drew)); exact HO_3.out⟩, ⟨by (with_reducible repeat (first | refine blk_drewN ?_ _ | refine blk_drew ?_ | refine blk_alloc ?_ _)); exact BK428.out⟩, ⟨by repeat (first | (with_reducible first | exact HB.out | apply below_alloc | apply pw_below_drewN | apply below_drew1 | refine below_set ?_ GE428.out | refine below_set ?_ GE430.out) | exact HB.out)⟩⟩
            · replace c8 := Bool.eq_false_iff.mpr c8
              subst c8
              have H1 : ((impl_blanks.f k1 (false) ((rd_T112 l0_0 x9_1).f1) ((rd_T112 l0_0 x9_1).f2)).bind fun t431 => (if t431 = (((rd_T112 l0_0 x9_1).f2).length : Int) then (if x3_1.length < 17592186044416 then (impl_FreeBlocks.l0 k1 (x3_1 ++ [x9_1]) l0_0 (l0_0.length : Int) (wrap64 (x9_1 + 1))) else (none)) else (impl_FreeBlocks.l0 k1 x3_1 l0_0 (l0_0.length : Int) (wrap64 (x9_1 + 1))))) = some r := by rw [if_neg (show ¬ (false = true) by decide)] at H; exact H
              clear H
              have H := H1
              clear H1
              replace H := Option.bind_eq_some_iff.mp H
              obtain ⟨t431, A140, H⟩ := H
              replace H : (if t431 = (((rd_T112 l0_0 x9_1).f2).length : Int) then (if x3_1.length < 17592186044416 then (impl_FreeBlocks.l0 k1 (x3_1 ++ [x9_1]) l0_0 (l0_0.length : Int) (wrap64 (x9_1 + 1))) else (none)) else (impl_FreeBlocks.l0 k1 x3_1 l0_0 (l0_0.length : Int) (wrap64 (x9_1 + 1)))) = some r := H
              have A14 := Aside0.mk A140
              clear A140
              by_cases c15 : t431 = (((rd_T112 l0_0 x9_1).f2).length : Int)
              · rw [if_pos c15] at H
                have c15b0 : (t431 == (((rd_T112 l0_0 x9_1).f2).length : Int)) = true := beq_iff_eq.mpr c15
                have c15b1 : (t431 != (((rd_T112 l0_0 x9_1).f2).length : Int)) = false := bne_eq_false_iff_eq.mpr c15
                clear c15
                by_cases c16 : x3_1.length < 17592186044416
                · rw [if_pos c16] at H
                  have LMc16 := Aside0.mk c16
                  clear c16
                  obtain ⟨y432, hy432⟩ : ∃ y_ : List Int, y_ = (x3_1 ++ [x9_1]) := ⟨_, rfl⟩
                  replace H : (impl_FreeBlocks.l0 k1 y432 l0_0 (l0_0.length : Int) (wrap64 (x9_1 + 1))) = some r := by first | (rw [hy432]; with_reducible exact H) | (have H2_ := (Option.bind_some _ _).symm.trans H; rw [hy432]; with_reducible exact H2_) | (have H2_ := (Option.bind_some _ _).symm.trans H; with_reducible exact H2_) | with_reducible exact H | (rw [hy432]; exact H) | exact H
                  have Ny432 := Aside0.mk hy432
                  clear hy432
                  have H' := Aside0.mk H
                  clear H
                  have p429 : 0 ≤ (x9_1 : Int) := of_decide_eq_true (by first | (with_reducible assumption) | assumption)
                  have q429 : x9_1 < (l0_0.length : Int) := of_decide_eq_true (by first | (with_reducible assumption) | assumption)
                  obtain ⟨ad429, A429_2, c429_2, e429, hx429_0, hx429_1, hx429_2, hl429_2, hi429_2⟩ := at_T112 HR0_0.out x9_1 p429 q429
                  (try rw [← Nbq7.out] at hx429_0)
                  cases e429
                  replace hx429_0 := (HB.out.cell (World.block_lt_of_cell? w _ hx429_0)).trans hx429_0
                  replace hx429_1 := (HB.out.cell (World.block_lt_of_cell? w _ hx429_1)).trans hx429_1
                  replace hx429_2 := (HB.out.cell (World.block_lt_of_cell? w _ hx429_2)).trans hx429_2
                  have HR429_2 := Aside0.mk hi429_2
                  have HC429_2 := Aside0.mk hl429_2
                  clear hi429_2 hl429_2
                  replace p429 := eq_true p429
                  replace q429 := eq_true q429
                  try go_wp2_with (first | ((with_reducible refine gate_dst (N := 5) rfl ?_); (try (refine gate_guard (by rfl) ?_; dsimp only)); refine box_event ?hg (N := 5) ?hd (cs := #[.bool false, .int .i64 0, .slice none 0 0]) (t := 112) ?hr ?_; (case hd => rfl); (case hg => rfl); (case hr => first | (go_simp; done) | (go_simp; rfl)); intro gb430 hg w17 hbox hb; have n0_ := Aside0.mk (Kd.R_below (by (with_reducible repeat (first | apply Kd.R_alloc | apply Kd.R_drewN | apply Kd.R_drew)); exact HO_3.out) hb); have n1_ := Aside0.mk (blk_below (g := gb428) (o := .cells #[.slice (some ad429) l0_0.length c0_0] 59 (0, 0)) (by (with_reducible repeat (first | refine blk_drewN ?_ _ | refine blk_drew ?_ | refine blk_alloc ?_ _)); exact BK428.out) hb); have n2_ := Aside0.mk (below_step (by repeat (first | (with_reducible first | exact HB.out | apply below_alloc | apply pw_below_drewN | apply below_drew1 | refine below_set ?_ GE428.out) | exact HB.out)) hb); have n3_ := Aside0.mk (hbox); have n4_ := Aside0.mk ((by rw [hg]; exact (below_size (by repeat (first | (with_reducible first | exact HB.out | apply below_alloc | apply pw_below_drewN | apply below_drew1 | refine below_set ?_ GE428.out) | exact HB.out))) : w.heap.size ≤ gb430)); have n5_ := Aside0.mk ((by rw [hg]; exact (below_size (by repeat (first | (with_reducible first | exact HB.out | apply below_alloc | apply pw_below_drewN | apply below_drew1 | refine below_set ?_ GE428.out) | exact HB.out))) : w.heap.size ≤ gb430)); have n6_ := Aside0.mk ((by rw [hg]; exact Nat.ne_of_lt (blk_lt (g := gb428) (o := .cells #[.slice (some ad429) l0_0.length c0_0] 59 (0, 0)) (by (with_reducible repeat (first | refine blk_drewN ?_ _ | refine blk_drew ?_ | refine blk_alloc ?_ _)); exact BK428.out)) : gb428 ≠ gb430)); have n7_ := Aside0.mk ((by rw [hg]; exact Nat.ne_of_gt (blk_lt (g := gb428) (o := .cells #[.slice (some ad429) l0_0.length c0_0] 59 (0, 0)) (by (with_reducible repeat (first | refine blk_drewN ?_ _ | refine blk_drew ?_ | refine blk_alloc ?_ _)); exact BK428.out)) : gb430 ≠ gb428)); clear HO_3; clear BK428; clear HB; have HO_3 := n0_; have BK428 := n1_; have HB := n2_; have BK430 := n3_; have GW430 := n4_; have GE430 := n5_; have NB428_430 := n6_; have NB430_428 := n7_; clear n0_ n1_ n2_ n3_ n4_ n5_ n6_ n7_; clear hb hbox hg; have hnb18 := NB430_428.out; have hnc18 := NB428_430.out; have hcz19_0 : w17.cell? ⟨gb430, 0, none⟩ = some (.bool false) := (blk_cell BK430.out 0).trans rfl; have hcz19_1 : w17.cell? ⟨gb430, 1, none⟩ = some (.int .i64 0) := (blk_cell BK430.out 1).trans rfl; have hcz19_2 : w17.cell? ⟨gb430, 2, none⟩ = some (.slice none 0 0) := (blk_cell BK430.out 2).trans rfl; have hfz19_0 := blk_frozen BK430.out 0; have hfz19_1 := blk_frozen BK430.out 1; have hfz19_2 := blk_frozen BK430.out 2))
                  have n0_ : Aside0 (Kd.R (Kd.int .i64) 3 (((w17.setCell ⟨gb430, 0, none⟩ (.bool false)).setCell ⟨gb430, 1, none⟩ (.int .i64 ((rd_T112 l0_0 x9_1).f1))).setCell ⟨gb430, 2, none⟩ (.slice A429_2 ((rd_T112 l0_0 x9_1).f2).length c429_2)) w.heap.size (fun _ => True) u3 x3_1) := ⟨by (with_reducible repeat (first | apply Kd.R_alloc | apply Kd.R_drewN | apply Kd.R_drew)); exact Kd.R_mono (Kd.R_far (p := ⟨gb430, 2, none⟩) (Kd.R_far (p := ⟨gb430, 1, none⟩) (Kd.R_far (p := ⟨gb430, 0, none⟩) (Kd.R_types HO_3.out BK430.out (by decide)) (fun _ hk => hk.2) (.bool false)) (fun _ hk => hk.2) (.int .i64 ((rd_T112 l0_0 x9_1).f1))) (fun _ hk => hk.2) (.slice A429_2 ((rd_T112 l0_0 x9_1).f2).length c429_2)) (fun _ hk => trivial)⟩
                  have n1_ : Aside0 ((((w17.setCell ⟨gb430, 0, none⟩ (.bool false)).setCell ⟨gb430, 1, none⟩ (.int .i64 ((rd_T112 l0_0 x9_1).f1))).setCell ⟨gb430, 2, none⟩ (.slice A429_2 ((rd_T112 l0_0 x9_1).f2).length c429_2)).heap[gb428]? = some (.cells #[.slice (some ad429) l0_0.length c0_0] 59 (0, 0))) := ⟨by (with_reducible repeat (first | refine blk_drewN ?_ _ | refine blk_drew ?_ | refine blk_alloc ?_ _)); refine blk_far ?_ NB428_430.out _; (with_reducible repeat (first | refine blk_drewN ?_ _ | refine blk_drew ?_ | refine blk_alloc ?_ _)); refine blk_far ?_ NB428_430.out _; (with_reducible repeat (first | refine blk_drewN ?_ _ | refine blk_drew ?_ | refine blk_alloc ?_ _)); refine blk_far ?_ NB428_430.out _; (with_reducible repeat (first | refine blk_drewN ?_ _ | refine blk_drew ?_ | refine blk_alloc ?_ _)); exact BK428.out⟩
                  have n2_ : Aside0 ((((w17.setCell ⟨gb430, 0, none⟩ (.bool false)).setCell ⟨gb430, 1, none⟩ (.int .i64 ((rd_T112 l0_0 x9_1).f1))).setCell ⟨gb430, 2, none⟩ (.slice A429_2 ((rd_T112 l0_0 x9_1).f2).length c429_2)).heap[gb430]? = some (.cells #[.bool false, .int .i64 ((rd_T112 l0_0 x9_1).f1), .slice A429_2 ((rd_T112 l0_0 x9_1).f2).length c429_2] 112 (0, 0))) := ⟨by (with_reducible repeat (first | refine blk_drewN ?_ _ | refine blk_drew ?_ | refine blk_alloc ?_ _)); refine blk_put (cs := #[.bool false, .int .i64 ((rd_T112 l0_0 x9_1).f1), .slice none 0 0]) ?_ 2 _ rfl; (with_reducible repeat (first | refine blk_drewN ?_ _ | refine blk_drew ?_ | refine blk_alloc ?_ _)); refine blk_put (cs := #[.bool false, .int .i64 0, .slice none 0 0]) ?_ 1 _ rfl; (with_reducible repeat (first | refine blk_drewN ?_ _ | refine blk_drew ?_ | refine blk_alloc ?_ _)); refine blk_put (cs := #[.bool false, .int .i64 0, .slice none 0 0]) ?_ 0 _ rfl; (with_reducible repeat (first | refine blk_drewN ?_ _ | refine blk_drew ?_ | refine blk_alloc ?_ _)); exact BK430.out⟩
                  have n3_ : Aside0 (Below w.heap.size w (((w17.setCell ⟨gb430, 0, none⟩ (.bool false)).setCell ⟨gb430, 1, none⟩ (.int .i64 ((rd_T112 l0_0 x9_1).f1))).setCell ⟨gb430, 2, none⟩ (.slice A429_2 ((rd_T112 l0_0 x9_1).f2).length c429_2))) := ⟨by repeat (first | (with_reducible first | exact HB.out | apply below_alloc | apply pw_below_drewN | apply below_drew1 | refine below_set ?_ GE428.out | refine below_set ?_ GE430.out) | exact HB.out)⟩
                  (try clear HO_3)
                  (try clear BK428)
                  (try clear BK430)
                  (try clear HB)
                  generalize (((w17.setCell ⟨gb430, 0, none⟩ (.bool false)).setCell ⟨gb430, 1, none⟩ (.int .i64 ((rd_T112 l0_0 x9_1).f1))).setCell ⟨gb430, 2, none⟩ (.slice A429_2 ((rd_T112 l0_0 x9_1).f2).length c429_2)) = w20 at n0_ n1_ n2_ n3_ ⊢
                  have HO_3 := n0_
                  have BK428 := n1_
                  have BK430 := n2_
                  have HB := n3_
                  clear n0_ n1_ n2_ n3_
                  have n0_ := Aside0.mk (Kd.R_drew HO_3.out)
                  have n1_ := Aside0.mk (blk_drew BK428.out)
                  have n2_ := Aside0.mk (blk_drew BK430.out)
                  have n3_ := Aside0.mk (below_drew1 HB.out)
                  clear HO_3
                  clear BK428
                  clear BK430
                  clear HB
                  have HO_3 := n0_
                  have BK428 := n1_
                  have BK430 := n2_
                  have HB := n3_
                  clear n0_ n1_ n2_ n3_
                  refine start_ (n := 11) (S := fun w' => w'.cell? ⟨gb430, 0, none⟩ = some (.bool false) ∧ w'.cell? ⟨gb430, 1, none⟩ = some (.int .i64 ((rd_T112 l0_0 x9_1).f1)) ∧ w'.cell? ⟨gb430, 2, none⟩ = some (.slice A429_2 ((rd_T112 l0_0 x9_1).f2).length c429_2)) (ds := []) #[false, false, false, false, false, false, false, false, false, false, false] (by kernel_rfl) rfl rfl ⟨(blk_cell BK430.out 0).trans rfl, (blk_cell BK430.out 1).trans rfl, (blk_cell BK430.out 2).trans rfl⟩ (fun hHeld => ?_); refine with_tabW impl_FreeBlocks.tab5 impl_FreeBlocks.bits5 (fun HT_ HW_ => ?_)
                  generalize w20.drew = w21 at HO_3 BK428 BK430 HB hHeld ⊢
                  refine pure_ (i := 0) (N := some 14) (v := ?_) (a' := ?_) #[true, false, false, false, false, false, false, false, false, false, false] rfl rfl (any_of HT_.out (by kernel_rfl)) (fun _ _ _ h => h) (Or.inl ⟨by rfl, ?_⟩) ?_ ?_
                  rotate_left
                  · intro w'
                    go_simp
                    with_reducible rfl
                  rotate_left
                  · simp only [Act.put, List.setIfInBounds_toArray, List.set_cons_zero, List.set_cons_succ, i64_w, i32_w]
                    rfl
                  refine take_ (i := 1) (N := some 15) (v := ?_) (a' := ?_) #[true, true, false, false, false, false, false, false, false, false, false] rfl rfl (take_ofW HT_.out HW_.out (by kernel_rfl)) (fun _ _ _ h => h) (Or.inl ⟨by rfl, ?_⟩) hHeld ?_ ?_
                  rotate_left
                  · rintro w' ⟨s0, s1, s2⟩
                    go_simp
                    with_reducible rfl
                  rotate_left
                  · simp only [Act.put, List.setIfInBounds_toArray, List.set_cons_zero, List.set_cons_succ, i64_w, i32_w]
                    rfl
                  refine pure_ (i := 2) (N := some 16) (v := ?_) (a' := ?_) #[true, true, true, false, false, false, false, false, false, false, false] rfl rfl (any_of HT_.out (by kernel_rfl)) (fun _ _ _ h => h) (Or.inl ⟨by rfl, ?_⟩) ?_ ?_
                  rotate_left
                  · intro w'
                    go_simp
                    with_reducible rfl
                  rotate_left
                  · simp only [Act.put, List.setIfInBounds_toArray, List.set_cons_zero, List.set_cons_succ, i64_w, i32_w]
                    rfl
                  refine pure_ (i := 3) (N := some 17) (v := ?_) (a' := ?_) #[true, true, true, true, false, false, false, false, false, false, false] rfl rfl (any_of HT_.out (by kernel_rfl)) (fun _ _ _ h => h) (Or.inl ⟨by rfl, ?_⟩) ?_ ?_
                  rotate_left
                  · intro w'
                    go_simp
                    with_reducible rfl
                  rotate_left
                  · simp only [Act.put, List.setIfInBounds_toArray, List.set_cons_zero, List.set_cons_succ, i64_w, i32_w]
                    rfl
                  refine pure_ (i := 6) (N := some 20) (v := ?_) (a' := ?_) #[true, true, true, true, false, false, true, false, false, false, false] rfl rfl (any_of HT_.out (by kernel_rfl)) (fun _ _ _ h => h) (Or.inl ⟨by rfl, ?_⟩) ?_ ?_
                  rotate_left
                  · intro w'
                    go_simp
                    with_reducible rfl
                  rotate_left
                  · simp only [Act.put, List.setIfInBounds_toArray, List.set_cons_zero, List.set_cons_succ, i64_w, i32_w]
                    rfl
                  refine take_ (i := 4) (N := some 18) (v := ?_) (a' := ?_) #[true, true, true, true, true, false, true, false, false, false, false] rfl rfl (take_ofW HT_.out HW_.out (by kernel_rfl)) (fun _ _ _ h => h) (Or.inl ⟨by rfl, ?_⟩) hHeld ?_ ?_
                  rotate_left
                  · rintro w' ⟨s0, s1, s2⟩
                    go_simp
                    with_reducible rfl
                  rotate_left
                  · simp only [Act.put, List.setIfInBounds_toArray, List.set_cons_zero, List.set_cons_succ, i64_w, i32_w]
                    rfl
                  refine take_ (i := 7) (N := some 21) (v := ?_) (a' := ?_) #[true, true, true, true, true, false, true, true, false, false, false] rfl rfl (take_ofW HT_.out HW_.out (by kernel_rfl)) (fun _ _ _ h => h) (Or.inl ⟨by rfl, ?_⟩) hHeld ?_ ?_
                  rotate_left
                  · rintro w' ⟨s0, s1, s2⟩
                    go_simp
                    with_reducible rfl
                  rotate_left
                  · simp only [Act.put, List.setIfInBounds_toArray, List.set_cons_zero, List.set_cons_succ, i64_w, i32_w]
                    rfl
                  refine pure_ (i := 8) (N := some 22) (v := ?_) (a' := ?_) #[true, true, true, true, true, false, true, true, true, false, false] rfl rfl (any_of HT_.out (by kernel_rfl)) (fun _ _ _ h => h) (Or.inl ⟨by rfl, ?_⟩) ?_ ?_
                  rotate_left
                  · intro w'
                    go_simp
                    with_reducible rfl
                  rotate_left
                  · simp only [Act.put, List.setIfInBounds_toArray, List.set_cons_zero, List.set_cons_succ, i64_w, i32_w]
                    rfl
                  refine one_ (i := 5) (N := some 19) #[true, true, true, true, true, true, true, true, true, false, false] rfl rfl (one_of HT_.out (by kernel_rfl)) (by decide) (fun K hK => ?_)
                  refine goes_ Try.func71 (by kernel_rfl) rfl #[.agg #[.bool false, .int .i64 ((rd_T112 l0_0 x9_1).f1), .slice A429_2 ((rd_T112 l0_0 x9_1).f2).length c429_2]] (by rfl) rfl rfl (by (try simp only [List.map_toArray, List.map_cons, List.map_nil]); first | done | rfl | (simp only [List.length_drop, List.length_take]; rfl)) ?_
                  with_reducible refine (impl_blanks.calls k1 false ((rd_T112 l0_0 x9_1).f1) _ _ ((rd_T112 l0_0 x9_1).f2) t431 _ ?side1 ?side2 A14.out).mono ?_
                  (case side1 => repeat (first | exact (Kd.C_below HR429_2.out HB.out) | (with_reducible refine Kd.C_alloc ?_ _) | (with_reducible refine Kd.C_drewN ?_ _) | (with_reducible refine Kd.C_drew ?_)))
                  (case side2 => exact HC429_2.out)
                  rintro e w22 ⟨rfl, hb⟩
                  refine ⟨_, rfl, ?_⟩
                  have n0_ := Aside0.mk (Kd.R_below (by (with_reducible repeat (first | apply Kd.R_alloc | apply Kd.R_drewN | apply Kd.R_drew)); exact HO_3.out) hb)
                  have n1_ := Aside0.mk (blk_below (g := gb428) (o := .cells #[.slice (some ad429) l0_0.length c0_0] 59 (0, 0)) (by (with_reducible repeat (first | refine blk_drewN ?_ _ | refine blk_drew ?_ | refine blk_alloc ?_ _)); exact BK428.out) hb)
                  have n2_ := Aside0.mk (blk_below (g := gb430) (o := .cells #[.bool false, .int .i64 ((rd_T112 l0_0 x9_1).f1), .slice A429_2 ((rd_T112 l0_0 x9_1).f2).length c429_2] 112 (0, 0)) (by (with_reducible repeat (first | refine blk_drewN ?_ _ | refine blk_drew ?_ | refine blk_alloc ?_ _)); exact BK430.out) hb)
                  have n3_ := Aside0.mk (below_step (by repeat (first | (with_reducible first | exact HB.out | apply below_alloc | apply pw_below_drewN | apply below_drew1 | refine below_set ?_ GE428.out | refine below_set ?_ GE430.out) | exact HB.out)) hb)
                  clear HO_3
                  clear BK428
                  clear BK430
                  clear HB
                  have HO_3 := n0_
                  have BK428 := n1_
                  have BK430 := n2_
                  have HB := n3_
                  clear n0_ n1_ n2_ n3_
                  (try clear hb)
                  (try clear hb2)
                  (try clear hk)
                  (try clear hi)
                  refine hK.out _ _ ⟨(blk_cell BK430.out 0).trans rfl, (blk_cell BK430.out 1).trans rfl, (blk_cell BK430.out 2).trans rfl⟩ (fun hHeld => ?_)
                  clear hK K
                  refine norm_ (a' := ?_) ?_ ?_
                  rotate_left
                  · show Act.put _ (some 19) _ = _
                    simp only [Act.put, List.setIfInBounds_toArray, List.set_cons_zero, List.set_cons_succ, i64_w, i32_w]
                    rfl
                  refine pure_ (i := 9) (N := some 23) (v := ?_) (a' := ?_) #[true, true, true, true, true, true, true, true, true, true, false] rfl rfl (any_of HT_.out (by kernel_rfl)) (fun _ _ _ h => h) (Or.inl ⟨by rfl, ?_⟩) ?_ ?_
                  rotate_left
                  · intro w'
                    go_simp
                    with_reducible rfl
                  rotate_left
                  · simp only [Act.put, List.setIfInBounds_toArray, List.set_cons_zero, List.set_cons_succ, i64_w, i32_w]
                    rfl
                  refine pure_ (i := 10) (N := some 24) (v := ?_) (a' := ?_) #[true, true, true, true, true, true, true, true, true, true, true] rfl rfl (any_of HT_.out (by kernel_rfl)) (fun _ _ _ h => h) (Or.inl ⟨by rfl, ?_⟩) ?_ ?_
                  rotate_left
                  · intro w'
                    go_simp
                    with_reducible rfl
                  rotate_left
                  · simp only [Act.put, List.setIfInBounds_toArray, List.set_cons_zero, List.set_cons_succ, i64_w, i32_w]
                    rfl
                  refine done_ (done_of HT_.out (by kernel_rfl)) ?_
                  try go_wp2_with (first | ((with_reducible refine gate_builtin (b := .append) (xs := #[.tmp 25, .tmp 27]) rfl ?_); (try (refine gate_guard (by rfl) ?_; dsimp only)); at_builtin; refine Kd.R_append (Kd.int .i64) (w0 := w) w.heap.size rfl (.tmp 25) (.tmp 27) 44 3 (.int .i64 0) 8 rfl Try.underlying44 info3 rfl (by decide) (by omega) u3 x3_1 x9_1 [.int .i64 x9_1] (fun _ => True) (fun _ => False) rfl rfl ?aP (fun _ hk => hk.elim) ?aF ?aO ?aB ?aS ?aL ?_; (case aP => exact rfl); (case aB => exact (by repeat (first | (with_reducible first | exact HB.out | apply below_alloc | apply pw_below_drewN | apply below_drew1 | refine below_set ?_ GE428.out | refine below_set ?_ GE430.out) | exact HB.out))); (case aF => exact (fun _ _ => trivial)); (case aO => exact (by (with_reducible repeat (first | apply Kd.R_alloc | apply Kd.R_drewN | apply Kd.R_drew)); exact HO_3.out)); (case aS => exact (below_size (by repeat (first | (with_reducible first | exact HB.out | apply below_alloc | apply pw_below_drewN | apply below_drew1 | refine below_set ?_ GE428.out | refine below_set ?_ GE430.out) | exact HB.out)))); (case aL => have := LMc16.out; omega); intro v433 w23 ho hb hg hat; rw [← Ny432.out] at ho; have n0_ := Aside0.mk (blk_grown (g := gb428) (o := .cells #[.slice (some ad429) l0_0.length c0_0] 59 (0, 0)) (by (with_reducible repeat (first | refine blk_drewN ?_ _ | refine blk_drew ?_ | refine blk_alloc ?_ _)); exact BK428.out) hg (Kd.R_ne HO_3.out BK428.out (by decide))); have n1_ := Aside0.mk (blk_grown (g := gb430) (o := .cells #[.bool false, .int .i64 ((rd_T112 l0_0 x9_1).f1), .slice A429_2 ((rd_T112 l0_0 x9_1).f2).length c429_2] 112 (0, 0)) (by (with_reducible repeat (first | refine blk_drewN ?_ _ | refine blk_drew ?_ | refine blk_alloc ?_ _)); exact BK430.out) hg (Kd.R_ne HO_3.out BK430.out (by decide))); have n2_ := Aside0.mk (hb); have n3_ := Aside0.mk (ho); clear BK428; clear BK430; clear HB; clear HO_3; have BK428 := n0_; have BK430 := n1_; have HB := n2_; have HO434 := n3_; clear n0_ n1_ n2_ n3_; clear ho hb hg hat))
                  go_roundg k1
                  case measure => have := HK1.out; omega
                  case rel => exact ⟨(y432), (wrap64 (x9_1 + 1)), (by first | rfl | (simp; done) | (simp [*]; done)), H', ⟨by have := HK1.out; omega⟩, ⟨by (with_reducible repeat (first | apply Kd.R_alloc | apply Kd.R_drewN | apply Kd.R_drew)); exact HO434.out⟩, ⟨by (with_reducible repeat (first | refine blk_drewN ?_ _ | refine blk_drew ?_ | refine blk_alloc ?_ _)); exact BK428.out⟩, ⟨by repeat (first | (with_reducible first | exact HB.out | apply below_alloc | apply pw_below_drewN | apply below_drew1 | refine below_set ?_ GE428.out | refine below_set ?_ GE430.out) | exact HB.out)⟩⟩
                · rw [if_neg c16] at H
                  exact absurd H (by simp)
              · rw [if_neg c15] at H
                have c15b0 : (t431 == (((rd_T112 l0_0 x9_1).f2).length : Int)) = false := beq_eq_false_iff_ne.mpr c15
                have c15b1 : (t431 != (((rd_T112 l0_0 x9_1).f2).length : Int)) = true := bne_iff_ne.mpr c15
                have H' := Aside0.mk H
                clear H
                have p429 : 0 ≤ (x9_1 : Int) := of_decide_eq_true (by first | (with_reducible assumption) | assumption)
                have q429 : x9_1 < (l0_0.length : Int) := of_decide_eq_true (by first | (with_reducible assumption) | assumption)
                obtain ⟨ad429, A429_2, c429_2, e429, hx429_0, hx429_1, hx429_2, hl429_2, hi429_2⟩ := at_T112 HR0_0.out x9_1 p429 q429
                (try rw [← Nbq7.out] at hx429_0)
                cases e429
                replace hx429_0 := (HB.out.cell (World.block_lt_of_cell? w _ hx429_0)).trans hx429_0
                replace hx429_1 := (HB.out.cell (World.block_lt_of_cell? w _ hx429_1)).trans hx429_1
                replace hx429_2 := (HB.out.cell (World.block_lt_of_cell? w _ hx429_2)).trans hx429_2
                have HR429_2 := Aside0.mk hi429_2
                have HC429_2 := Aside0.mk hl429_2
                clear hi429_2 hl429_2
                replace p429 := eq_true p429
                replace q429 := eq_true q429
                try go_wp2_with (first | ((with_reducible refine gate_dst (N := 5) rfl ?_); (try (refine gate_guard (by rfl) ?_; dsimp only)); refine box_event ?hg (N := 5) ?hd (cs := #[.bool false, .int .i64 0, .slice none 0 0]) (t := 112) ?hr ?_; (case hd => rfl); (case hg => rfl); (case hr => first | (go_simp; done) | (go_simp; rfl)); intro gb430 hg w24 hbox hb; have n0_ := Aside0.mk (Kd.R_below (by (with_reducible repeat (first | apply Kd.R_alloc | apply Kd.R_drewN | apply Kd.R_drew)); exact HO_3.out) hb); have n1_ := Aside0.mk (blk_below (g := gb428) (o := .cells #[.slice (some ad429) l0_0.length c0_0] 59 (0, 0)) (by (with_reducible repeat (first | refine blk_drewN ?_ _ | refine blk_drew ?_ | refine blk_alloc ?_ _)); exact BK428.out) hb); have n2_ := Aside0.mk (below_step (by repeat (first | (with_reducible first | exact HB.out | apply below_alloc | apply pw_below_drewN | apply below_drew1 | refine below_set ?_ GE428.out) | exact HB.out)) hb); have n3_ := Aside0.mk (hbox); have n4_ := Aside0.mk ((by rw [hg]; exact (below_size (by repeat (first | (with_reducible first | exact HB.out | apply below_alloc | apply pw_below_drewN | apply below_drew1 | refine below_set ?_ GE428.out) | exact HB.out))) : w.heap.size ≤ gb430)); have n5_ := Aside0.mk ((by rw [hg]; exact (below_size (by repeat (first | (with_reducible first | exact HB.out | apply below_alloc | apply pw_below_drewN | apply below_drew1 | refine below_set ?_ GE428.out) | exact HB.out))) : w.heap.size ≤ gb430)); have n6_ := Aside0.mk ((by rw [hg]; exact Nat.ne_of_lt (blk_lt (g := gb428) (o := .cells #[.slice (some ad429) l0_0.length c0_0] 59 (0, 0)) (by (with_reducible repeat (first | refine blk_drewN ?_ _ | refine blk_drew ?_ | refine blk_alloc ?_ _)); exact BK428.out)) : gb428 ≠ gb430)); have n7_ := Aside0.mk ((by rw [hg]; exact Nat.ne_of_gt (blk_lt (g := gb428) (o := .cells #[.slice (some ad429) l0_0.length c0_0] 59 (0, 0)) (by (with_reducible repeat (first | refine blk_drewN ?_ _ | refine blk_drew ?_ | refine blk_alloc ?_ _)); exact BK428.out)) : gb430 ≠ gb428)); clear HO_3; clear BK428; clear HB; have HO_3 := n0_; have BK428 := n1_; have HB := n2_; have BK430 := n3_; have GW430 := n4_; have GE430 := n5_; have NB428_430 := n6_; have NB430_428 := n7_; clear n0_ n1_ n2_ n3_ n4_ n5_ n6_ n7_; clear hb hbox hg; have hnb25 := NB430_428.out; have hnc25 := NB428_430.out; have hcz26_0 : w24.cell? ⟨gb430, 0, none⟩ = some (.bool false) := (blk_cell BK430.out 0).trans rfl; have hcz26_1 : w24.cell? ⟨gb430, 1, none⟩ = some (.int .i64 0) := (blk_cell BK430.out 1).trans rfl; have hcz26_2 : w24.cell? ⟨gb430, 2, none⟩ = some (.slice none 0 0) := (blk_cell BK430.out 2).trans rfl; have hfz26_0 := blk_frozen BK430.out 0; have hfz26_1 := blk_frozen BK430.out 1; have hfz26_2 := blk_frozen BK430.out 2))
                have n0_ : Aside0 (Kd.R (Kd.int .i64) 3 (((w24.setCell ⟨gb430, 0, none⟩ (.bool false)).setCell ⟨gb430, 1, none⟩ (.int .i64 ((rd_T112 l0_0 x9_1).f1))).setCell ⟨gb430, 2, none⟩ (.slice A429_2 ((rd_T112 l0_0 x9_1).f2).length c429_2)) w.heap.size (fun _ => True) u3 x3_1) := ⟨by (with_reducible repeat (first | apply Kd.R_alloc | apply Kd.R_drewN | apply Kd.R_drew)); exact Kd.R_mono (Kd.R_far (p := ⟨gb430, 2, none⟩) (Kd.R_far (p := ⟨gb430, 1, none⟩) (Kd.R_far (p := ⟨gb430, 0, none⟩) (Kd.R_types HO_3.out BK430.out (by decide)) (fun _ hk => hk.2) (.bool false)) (fun _ hk => hk.2) (.int .i64 ((rd_T112 l0_0 x9_1).f1))) (fun _ hk => hk.2) (.slice A429_2 ((rd_T112 l0_0 x9_1).f2).length c429_2)) (fun _ hk => trivial)⟩
                have n1_ : Aside0 ((((w24.setCell ⟨gb430, 0, none⟩ (.bool false)).setCell ⟨gb430, 1, none⟩ (.int .i64 ((rd_T112 l0_0 x9_1).f1))).setCell ⟨gb430, 2, none⟩ (.slice A429_2 ((rd_T112 l0_0 x9_1).f2).length c429_2)).heap[gb428]? = some (.cells #[.slice (some ad429) l0_0.length c0_0] 59 (0, 0))) := ⟨by (with_reducible repeat (first | refine blk_drewN ?_ _ | refine blk_drew ?_ | refine blk_alloc ?_ _)); refine blk_far ?_ NB428_430.out _; (with_reducible repeat (first | refine blk_drewN ?_ _ | refine blk_drew ?_ | refine blk_alloc ?_ _)); refine blk_far ?_ NB428_430.out _; (with_reducible repeat (first | refine blk_drewN ?_ _ | refine blk_drew ?_ | refine blk_alloc ?_ _)); refine blk_far ?_ NB428_430.out _; (with_reducible repeat (first | refine blk_drewN ?_ _ | refine blk_drew ?_ | refine blk_alloc ?_ _)); exact BK428.out⟩
                have n2_ : Aside0 ((((w24.setCell ⟨gb430, 0, none⟩ (.bool false)).setCell ⟨gb430, 1, none⟩ (.int .i64 ((rd_T112 l0_0 x9_1).f1))).setCell ⟨gb430, 2, none⟩ (.slice A429_2 ((rd_T112 l0_0 x9_1).f2).length c429_2)).heap[gb430]? = some (.cells #[.bool false, .int .i64 ((rd_T112 l0_0 x9_1).f1), .slice A429_2 ((rd_T112 l0_0 x9_1).f2).length c429_2] 112 (0, 0))) := ⟨by (with_reducible repeat (first | refine blk_drewN ?_ _ | refine blk_drew ?_ | refine blk_alloc ?_ _)); refine blk_put (cs := #[.bool false, .int .i64 ((rd_T112 l0_0 x9_1).f1), .slice none 0 0]) ?_ 2 _ rfl; (with_reducible repeat (first | refine blk_drewN ?_ _ | refine blk_drew ?_ | refine blk_alloc ?_ _)); refine blk_put (cs := #[.bool false, .int .i64 0, .slice none 0 0]) ?_ 1 _ rfl; (with_reducible repeat (first | refine blk_drewN ?_ _ | refine blk_drew ?_ | refine blk_alloc ?_ _)); refine blk_put (cs := #[.bool false, .int .i64 0, .slice none 0 0]) ?_ 0 _ rfl; (with_reducible repeat (first | refine blk_drewN ?_ _ | refine blk_drew ?_ | refine blk_alloc ?_ _)); exact BK430.out⟩
                have n3_ : Aside0 (Below w.heap.size w (((w24.setCell ⟨gb430, 0, none⟩ (.bool false)).setCell ⟨gb430, 1, none⟩ (.int .i64 ((rd_T112 l0_0 x9_1).f1))).setCell ⟨gb430, 2, none⟩ (.slice A429_2 ((rd_T112 l0_0 x9_1).f2).length c429_2))) := ⟨by repeat (first | (with_reducible first | exact HB.out | apply below_alloc | apply pw_below_drewN | apply below_drew1 | refine below_set ?_ GE428.out | refine below_set ?_ GE430.out) | exact HB.out)⟩
                (try clear HO_3)
                (try clear BK428)
                (try clear BK430)
                (try clear HB)
                generalize (((w24.setCell ⟨gb430, 0, none⟩ (.bool false)).setCell ⟨gb430, 1, none⟩ (.int .i64 ((rd_T112 l0_0 x9_1).f1))).setCell ⟨gb430, 2, none⟩ (.slice A429_2 ((rd_T112 l0_0 x9_1).f2).length c429_2)) = w27 at n0_ n1_ n2_ n3_ ⊢
                have HO_3 := n0_
                have BK428 := n1_
                have BK430 := n2_
                have HB := n3_
                clear n0_ n1_ n2_ n3_
                have n0_ := Aside0.mk (Kd.R_drew HO_3.out)
                have n1_ := Aside0.mk (blk_drew BK428.out)
                have n2_ := Aside0.mk (blk_drew BK430.out)
                have n3_ := Aside0.mk (below_drew1 HB.out)
                clear HO_3
                clear BK428
                clear BK430
                clear HB
                have HO_3 := n0_
                have BK428 := n1_
                have BK430 := n2_
                have HB := n3_
                clear n0_ n1_ n2_ n3_
                refine start_ (n := 11) (S := fun w' => w'.cell? ⟨gb430, 0, none⟩ = some (.bool false) ∧ w'.cell? ⟨gb430, 1, none⟩ = some (.int .i64 ((rd_T112 l0_0 x9_1).f1)) ∧ w'.cell? ⟨gb430, 2, none⟩ = some (.slice A429_2 ((rd_T112 l0_0 x9_1).f2).length c429_2)) (ds := []) #[false, false, false, false, false, false, false, false, false, false, false] (by kernel_rfl) rfl rfl ⟨(blk_cell BK430.out 0).trans rfl, (blk_cell BK430.out 1).trans rfl, (blk_cell BK430.out 2).trans rfl⟩ (fun hHeld => ?_); refine with_tabW impl_FreeBlocks.tab5 impl_FreeBlocks.bits5 (fun HT_ HW_ => ?_)
                generalize w27.drew = w28 at HO_3 BK428 BK430 HB hHeld ⊢
                refine pure_ (i := 0) (N := some 14) (v := ?_) (a' := ?_) #[true, false, false, false, false, false, false, false, false, false, false] rfl rfl (any_of HT_.out (by kernel_rfl)) (fun _ _ _ h => h) (Or.inl ⟨by rfl, ?_⟩) ?_ ?_
                rotate_left
                · intro w'
                  go_simp
                  with_reducible rfl
                rotate_left
                · simp only [Act.put, List.setIfInBounds_toArray, List.set_cons_zero, List.set_cons_succ, i64_w, i32_w]
                  rfl
                refine take_ (i := 1) (N := some 15) (v := ?_) (a' := ?_) #[true, true, false, false, false, false, false, false, false, false, false] rfl rfl (take_ofW HT_.out HW_.out (by kernel_rfl)) (fun _ _ _ h => h) (Or.inl ⟨by rfl, ?_⟩) hHeld ?_ ?_
                rotate_left
                · rintro w' ⟨s0, s1, s2⟩
                  go_simp
                  with_reducible rfl
                rotate_left
                · simp only [Act.put, List.setIfInBounds_toArray, List.set_cons_zero, List.set_cons_succ, i64_w, i32_w]
                  rfl
                refine pure_ (i := 2) (N := some 16) (v := ?_) (a' := ?_) #[true, true, true, false, false, false, false, false, false, false, false] rfl rfl (any_of HT_.out (by kernel_rfl)) (fun _ _ _ h => h) (Or.inl ⟨by rfl, ?_⟩) ?_ ?_
                rotate_left
                · intro w'
                  go_simp
                  with_reducible rfl
                rotate_left
                · simp only [Act.put, List.setIfInBounds_toArray, List.set_cons_zero, List.set_cons_succ, i64_w, i32_w]
                  rfl
                refine pure_ (i := 3) (N := some 17) (v := ?_) (a' := ?_) #[true, true, true, true, false, false, false, false, false, false, false] rfl rfl (any_of HT_.out (by kernel_rfl)) (fun _ _ _ h => h) (Or.inl ⟨by rfl, ?_⟩) ?_ ?_
                rotate_left
                · intro w'
                  go_simp
                  with_reducible rfl
                rotate_left
                · simp only [Act.put, List.setIfInBounds_toArray, List.set_cons_zero, List.set_cons_succ, i64_w, i32_w]
                  rfl
                refine pure_ (i := 6) (N := some 20) (v := ?_) (a' := ?_) #[true, true, true, true, false, false, true, false, false, false, false] rfl rfl (any_of HT_.out (by kernel_rfl)) (fun _ _ _ h => h) (Or.inl ⟨by rfl, ?_⟩) ?_ ?_
                rotate_left
                · intro w'
                  go_simp
                  with_reducible rfl
                rotate_left
                · simp only [Act.put, List.setIfInBounds_toArray, List.set_cons_zero, List.set_cons_succ, i64_w, i32_w]
                  rfl
                refine take_ (i := 4) (N := some 18) (v := ?_) (a' := ?_) #[true, true, true, true, true, false, true, false, false, false, false] rfl rfl (take_ofW HT_.out HW_.out (by kernel_rfl)) (fun _ _ _ h => h) (Or.inl ⟨by rfl, ?_⟩) hHeld ?_ ?_
                rotate_left
                · rintro w' ⟨s0, s1, s2⟩
                  go_simp
                  with_reducible rfl
                rotate_left
                · simp only [Act.put, List.setIfInBounds_toArray, List.set_cons_zero, List.set_cons_succ, i64_w, i32_w]
                  rfl
                refine take_ (i := 7) (N := some 21) (v := ?_) (a' := ?_) #[true, true, true, true, true, false, true, true, false, false, false] rfl rfl (take_ofW HT_.out HW_.out (by kernel_rfl)) (fun _ _ _ h => h) (Or.inl ⟨by rfl, ?_⟩) hHeld ?_ ?_
                rotate_left
                · rintro w' ⟨s0, s1, s2⟩
                  go_simp
                  with_reducible rfl
                rotate_left
                · simp only [Act.put, List.setIfInBounds_toArray, List.set_cons_zero, List.set_cons_succ, i64_w, i32_w]
                  rfl
                refine pure_ (i := 8) (N := some 22) (v := ?_) (a' := ?_) #[true, true, true, true, true, false, true, true, true, false, false] rfl rfl (any_of HT_.out (by kernel_rfl)) (fun _ _ _ h => h) (Or.inl ⟨by rfl, ?_⟩) ?_ ?_
                rotate_left
                · intro w'
                  go_simp
                  with_reducible rfl
                rotate_left
                · simp only [Act.put, List.setIfInBounds_toArray, List.set_cons_zero, List.set_cons_succ, i64_w, i32_w]
                  rfl
                refine one_ (i := 5) (N := some 19) #[true, true, true, true, true, true, true, true, true, false, false] rfl rfl (one_of HT_.out (by kernel_rfl)) (by decide) (fun K hK => ?_)
                refine goes_ Try.func71 (by kernel_rfl) rfl #[.agg #[.bool false, .int .i64 ((rd_T112 l0_0 x9_1).f1), .slice A429_2 ((rd_T112 l0_0 x9_1).f2).length c429_2]] (by rfl) rfl rfl (by (try simp only [List.map_toArray, List.map_cons, List.map_nil]); first | done | rfl | (simp only [List.length_drop, List.length_take]; rfl)) ?_
                with_reducible refine (impl_blanks.calls k1 false ((rd_T112 l0_0 x9_1).f1) _ _ ((rd_T112 l0_0 x9_1).f2) t431 _ ?side1 ?side2 A14.out).mono ?_
                (case side1 => repeat (first | exact (Kd.C_below HR429_2.out HB.out) | (with_reducible refine Kd.C_alloc ?_ _) | (with_reducible refine Kd.C_drewN ?_ _) | (with_reducible refine Kd.C_drew ?_)))
                (case side2 => exact HC429_2.out)
                rintro e w29 ⟨rfl, hb⟩
                refine ⟨_, rfl, ?_⟩
                have n0_ := Aside0.mk (Kd.R_below (by (with_reducible repeat (first | apply Kd.R_alloc | apply Kd.R_drewN | apply Kd.R_drew)); exact HO_3.out) hb)
                have n1_ := Aside0.mk (blk_below (g := gb428) (o := .cells #[.slice (some ad429) l0_0.length c0_0] 59 (0, 0)) (by (with_reducible repeat (first | refine blk_drewN ?_ _ | refine blk_drew ?_ | refine blk_alloc ?_ _)); exact BK428.out) hb)
                have n2_ := Aside0.mk (blk_below (g := gb430) (o := .cells #[.bool false, .int .i64 ((rd_T112 l0_0 x9_1).f1), .slice A429_2 ((rd_T112 l0_0 x9_1).f2).length c429_2] 112 (0, 0)) (by (with_reducible repeat (first | refine blk_drewN ?_ _ | refine blk_drew ?_ | refine blk_alloc ?_ _)); exact BK430.out) hb)
                have n3_ := Aside0.mk (below_step (by repeat (first | (with_reducible first | exact HB.out | apply below_alloc | apply pw_below_drewN | apply below_drew1 | refine below_set ?_ GE428.out | refine below_set ?_ GE430.out) | exact HB.out)) hb)
                clear HO_3
                clear BK428
                clear BK430
                clear HB
                have HO_3 := n0_
                have BK428 := n1_
                have BK430 := n2_
                have HB := n3_
                clear n0_ n1_ n2_ n3_
                (try clear hb)
                (try clear hb2)
                (try clear hk)
                (try clear hi)
                refine hK.out _ _ ⟨(blk_cell BK430.out 0).trans rfl, (blk_cell BK430.out 1).trans rfl, (blk_cell BK430.out 2).trans rfl⟩ (fun hHeld => ?_)
                clear hK K
                refine norm_ (a' := ?_) ?_ ?_
                rotate_left
                · show Act.put _ (some 19) _ = _
                  simp only [Act.put, List.setIfInBounds_toArray, List.set_cons_zero, List.set_cons_succ, i64_w, i32_w]
                  rfl
                refine pure_ (i := 9) (N := some 23) (v := ?_) (a' := ?_) #[true, true, true, true, true, true, true, true, true, true, false] rfl rfl (any_of HT_.out (by kernel_rfl)) (fun _ _ _ h => h) (Or.inl ⟨by rfl, ?_⟩) ?_ ?_
                rotate_left
                · intro w'
                  go_simp
                  with_reducible rfl
                rotate_left
                · simp only [Act.put, List.setIfInBounds_toArray, List.set_cons_zero, List.set_cons_succ, i64_w, i32_w]
                  rfl
                refine pure_ (i := 10) (N := some 24) (v := ?_) (a' := ?_) #[true, true, true, true, true, true, true, true, true, true, true] rfl rfl (any_of HT_.out (by kernel_rfl)) (fun _ _ _ h => h) (Or.inl ⟨by rfl, ?_⟩) ?_ ?_
                rotate_left
                · intro w'
                  go_simp
                  with_reducible rfl
                rotate_left
                · simp only [Act.put, List.setIfInBounds_toArray, List.set_cons_zero, List.set_cons_succ, i64_w, i32_w]
                  rfl
                refine done_ (done_of HT_.out (by kernel_rfl)) ?_
                try go_wp2
                go_roundg k1
                case measure => have := HK1.out; omega
                case rel => exact ⟨(x3_1), (wrap64 (x9_1 + 1)), (by first | rfl | (simp; done) | (simp [*]; done)), H', ⟨by have := HK1.out; omega⟩, ⟨by (with_reducible repeat (first | apply Kd.R_alloc | apply Kd.R_drewN | apply Kd.R_drew)); exact HO_3.out⟩, ⟨by (with_reducible repeat (first | refine blk_drewN ?_ _ | refine blk_drew ?_ | refine blk_alloc ?_ _)); exact BK428.out⟩, ⟨by repeat (first | (with_reducible first | exact HB.out | apply below_alloc | apply pw_below_drewN | apply below_drew1 | refine below_set ?_ GE428.out | refine below_set ?_ GE430.out) | exact HB.out)⟩⟩
          · rw [if_neg c6] at H
            exact absurd H (by simp)
        · rw [if_neg c5] at H
          exact absurd H (by simp)
      · rw [if_neg c4] at H
        have c4b0 : decide (x9_1 < (l0_0.length : Int)) = false := decide_eq_false c4
        clear c4
        obtain rfl := Option.some.inj H
        go_wp2
        go_ret
        exact ⟨_, by first | rfl | (simp [errW_none, errW_some] <;> rfl) | (simp [*, errW_none, errW_some] <;> rfl), by (with_reducible repeat (first | apply Kd.R_alloc | apply Kd.R_drewN | apply Kd.R_drew)); exact HO_3.out, by repeat (first | (with_reducible first | exact HB.out | apply below_alloc | apply pw_below_drewN | apply below_drew1 | refine below_set ?_ GE428.out) | exact HB.out)⟩

end Go.Proofs.Ytijbejiajaiciaa.PC

/- Functions of the translation as plain Lean functions, and for each that its call comes to just what its Lean function answers; its conditions stand in each theorem. Written by a program of this session. -/
namespace Go.Proofs.Ytijbejiajaiciaa.PC
open Go.RowKit Go.Proofs.YtijbejiajaiciaaW.PrintWords Go.Proofs.YtijbejiajaiciaaW.PrintLast Go.Proofs.YtijbejiajaiciaaW.PrintMore
attribute [local go_sem] max2_int min2_int max_two min_two max_three min_three max_four min_four   -- for this text's walks alone
set_option linter.unusedVariables false
set_option linter.unusedSimpArgs false

/-! ### laws_eqLeaf: function 123 -/
def laws_eqLeaf.f (a0_0 : Int) (a0_1 : ByteArray) (a1_0 : Int) (a1_1 : ByteArray) : Option (Bool) := if a0_0 = a1_0 then (if a0_1.toList = a1_1.toList then (some true) else (some false)) else (some false)
set_option maxHeartbeats 8000000 in
set_option maxRecDepth 100000 in
theorem laws_eqLeaf.calls (a0_0 : Int) (a0_1 : ByteArray) (a1_0 : Int) (a1_1 : ByteArray) (r : Bool) (w : World) (h : laws_eqLeaf.f a0_0 a0_1 a1_0 a1_1 = some r) :
    Calls Try.prog 123 #[.agg #[.int .i64 a0_0, .string a0_1], .agg #[.int .i64 a1_0, .string a1_1]] w fun e w' => e = .returned (.bool r) ∧ Below w.heap.size w w' := by
  have hu114 := Try.underlying114
  have HB := Aside0.mk (Below.refl w.heap.size w)
  have H : (if a0_0 = a1_0 then (if a0_1.toList = a1_1.toList then (some true) else (some false)) else (some false)) = some r := h
  clear h
  by_cases c3 : a0_0 = a1_0
  · rw [if_pos c3] at H
    have c3b0 : (a0_0 == a1_0) = true := beq_iff_eq.mpr c3
    have c3b1 : (a0_0 != a1_0) = false := bne_eq_false_iff_eq.mpr c3
    clear c3
    by_cases c4 : a0_1.toList = a1_1.toList
    · rw [if_pos c4] at H
      have c4b0 : (a0_1.toList == a1_1.toList) = true := beq_iff_eq.mpr c4
      have c4b1 : (a0_1.toList != a1_1.toList) = false := bne_eq_false_iff_eq.mpr c4
      clear c4
      obtain rfl := Option.some.inj H
      go_enter Try.func123, Try.ntmps123
      go_wp2_with (first | ((with_reducible refine gate_dst (N := 2) rfl ?_); refine box_event ?hg (N := 2) ?hd (cs := #[.int .i64 a0_0, .string a0_1]) (t := 114) ?hr ?_; (case hd => rfl); (case hg => rfl); (case hr => first | (go_simp; done) | (go_simp; rfl)); intro gb435 hg w5 hbox hb; have n0_ := Aside0.mk (below_step (by repeat (first | (with_reducible first | exact HB.out | apply below_alloc | apply pw_below_drewN | apply below_drew1) | exact HB.out)) hb); have n1_ := Aside0.mk (hbox); have n2_ := Aside0.mk ((by rw [hg]; exact (below_size (by repeat (first | (with_reducible first | exact HB.out | apply below_alloc | apply pw_below_drewN | apply below_drew1) | exact HB.out))) : w.heap.size ≤ gb435)); have n3_ := Aside0.mk ((by rw [hg]; exact (below_size (by repeat (first | (with_reducible first | exact HB.out | apply below_alloc | apply pw_below_drewN | apply below_drew1) | exact HB.out))) : w.heap.size ≤ gb435)); clear HB; have HB := n0_; have BK435 := n1_; have GW435 := n2_; have GE435 := n3_; clear n0_ n1_ n2_ n3_; clear hb hbox hg) | ((with_reducible refine gate_dst (N := 3) rfl ?_); refine box_event ?hg (N := 3) ?hd (cs := #[.int .i64 a1_0, .string a1_1]) (t := 114) ?hr ?_; (case hd => rfl); (case hg => rfl); (case hr => first | (go_simp; done) | (go_simp; rfl)); intro gb436 hg w6 hbox hb; have n0_ := Aside0.mk (blk_below (g := gb435) (o := .cells #[.int .i64 a0_0, .string a0_1] 114 (0, 0)) (by (with_reducible repeat (first | refine blk_drewN ?_ _ | refine blk_drew ?_ | refine blk_alloc ?_ _)); exact BK435.out) hb); have n1_ := Aside0.mk (below_step (by repeat (first | (with_reducible first | exact HB.out | apply below_alloc | apply pw_below_drewN | apply below_drew1 | refine below_set ?_ GE435.out) | exact HB.out)) hb); have n2_ := Aside0.mk (hbox); have n3_ := Aside0.mk ((by rw [hg]; exact (below_size (by repeat (first | (with_reducible first | exact HB.out | apply below_alloc | apply pw_below_drewN | apply below_drew1 | refine below_set ?_ GE435.out) | exact HB.out))) : w.heap.size ≤ gb436)); have n4_ := Aside0.mk ((by rw [hg]; exact (below_size (by repeat (first | (with_reducible first | exact HB.out | apply below_alloc | apply pw_below_drewN | apply below_drew1 | refine below_set ?_ GE435.out) | exact HB.out))) : w.heap.size ≤ gb436)); have n5_ := Aside0.mk ((by rw [hg]; exact Nat.ne_of_lt (blk_lt (g := gb435) (o := .cells #[.int .i64 a0_0, .string a0_1] 114 (0, 0)) (by (with_reducible repeat (first | refine blk_drewN ?_ _ | refine blk_drew ?_ | refine blk_alloc ?_ _)); exact BK435.out)) : gb435 ≠ gb436)); have n6_ := Aside0.mk ((by rw [hg]; exact Nat.ne_of_gt (blk_lt (g := gb435) (o := .cells #[.int .i64 a0_0, .string a0_1] 114 (0, 0)) (by (with_reducible repeat (first | refine blk_drewN ?_ _ | refine blk_drew ?_ | refine blk_alloc ?_ _)); exact BK435.out)) : gb436 ≠ gb435)); clear BK435; clear HB; have BK435 := n0_; have HB := n1_; have BK436 := n2_; have GW436 := n3_; have GE436 := n4_; have NB435_436 := n5_; have NB436_435 := n6_; clear n0_ n1_ n2_ n3_ n4_ n5_ n6_; clear hb hbox hg; have hnb7 := NB435_436.out; have hnc7 := NB436_435.out; have hcz8_0 : w6.cell? ⟨gb435, 0, none⟩ = some (.int .i64 a0_0) := (blk_cell BK435.out 0).trans rfl; have hcz8_1 : w6.cell? ⟨gb435, 1, none⟩ = some (.string a0_1) := (blk_cell BK435.out 1).trans rfl; have hfz8_0 := blk_frozen BK435.out 0; have hfz8_1 := blk_frozen BK435.out 1; have hcz9_0 : w6.cell? ⟨gb436, 0, none⟩ = some (.int .i64 a1_0) := (blk_cell BK436.out 0).trans rfl; have hcz9_1 : w6.cell? ⟨gb436, 1, none⟩ = some (.string a1_1) := (blk_cell BK436.out 1).trans rfl; have hfz9_0 := blk_frozen BK436.out 0; have hfz9_1 := blk_frozen BK436.out 1))
      go_ret
      exact ⟨by first | rfl | (simp [errW_none, errW_some] <;> rfl) | (simp [*, errW_none, errW_some] <;> rfl), by repeat (first | (with_reducible first | exact HB.out | apply below_alloc | apply pw_below_drewN | apply below_drew1 | refine below_set ?_ GE435.out | refine below_set ?_ GE436.out) | exact HB.out)⟩
    · rw [if_neg c4] at H
      have c4b0 : (a0_1.toList == a1_1.toList) = false := beq_eq_false_iff_ne.mpr c4
      have c4b1 : (a0_1.toList != a1_1.toList) = true := bne_iff_ne.mpr c4
      obtain rfl := Option.some.inj H
      go_enter Try.func123, Try.ntmps123
      go_wp2_with (first | ((with_reducible refine gate_dst (N := 2) rfl ?_); refine box_event ?hg (N := 2) ?hd (cs := #[.int .i64 a0_0, .string a0_1]) (t := 114) ?hr ?_; (case hd => rfl); (case hg => rfl); (case hr => first | (go_simp; done) | (go_simp; rfl)); intro gb435 hg w10 hbox hb; have n0_ := Aside0.mk (below_step (by repeat (first | (with_reducible first | exact HB.out | apply below_alloc | apply pw_below_drewN | apply below_drew1) | exact HB.out)) hb); have n1_ := Aside0.mk (hbox); have n2_ := Aside0.mk ((by rw [hg]; exact (below_size (by repeat (first | (with_reducible first | exact HB.out | apply below_alloc | apply pw_below_drewN | apply below_drew1) | exact HB.out))) : w.heap.size ≤ gb435)); have n3_ := Aside0.mk ((by rw [hg]; exact (below_size (by repeat (first | (with_reducible first | exact HB.out | apply below_alloc | apply pw_below_drewN | apply below_drew1) | exact HB.out))) : w.heap.size ≤ gb435)); clear HB; have HB := n0_; have BK435 := n1_; have GW435 := n2_; have GE435 := n3_; clear n0_ n1_ n2_ n3_; clear hb hbox hg) | ((with_reducible refine gate_dst (N := 3) rfl ?_); refine box_event ?hg (N := 3) ?hd (cs := #[.int .i64 a1_0, .string a1_1]) (t := 114) ?hr ?_; (case hd => rfl); (case hg => rfl); (case hr => first | (go_simp; done) | (go_simp; rfl)); intro gb436 hg w11 hbox hb; have n0_ := Aside0.mk (blk_below (g := gb435) (o := .cells #[.int .i64 a0_0, .string a0_1] 114 (0, 0)) (by (with_reducible repeat (first | refine blk_drewN ?_ _ | refine blk_drew ?_ | refine blk_alloc ?_ _)); exact BK435.out) hb); have n1_ := Aside0.mk (below_step (by repeat (first | (with_reducible first | exact HB.out | apply below_alloc | apply pw_below_drewN | apply below_drew1 | refine below_set ?_ GE435.out) | exact HB.out)) hb); have n2_ := Aside0.mk (hbox); have n3_ := Aside0.mk ((by rw [hg]; exact (below_size (by repeat (first | (with_reducible first | exact HB.out | apply below_alloc | apply pw_below_drewN | apply below_drew1 | refine below_set ?_ GE435.out) | exact HB.out))) : w.heap.size ≤ gb436)); have n4_ := Aside0.mk ((by rw [hg]; exact (below_size (by repeat (first | (with_reducible first | exact HB.out | apply below_alloc | apply pw_below_drewN | apply below_drew1 | refine below_set ?_ GE435.out) | exact HB.out))) : w.heap.size ≤ gb436)); have n5_ := Aside0.mk ((by rw [hg]; exact Nat.ne_of_lt (blk_lt (g := gb435) (o := .cells #[.int .i64 a0_0, .string a0_1] 114 (0, 0)) (by (with_reducible repeat (first | refine blk_drewN ?_ _ | refine blk_drew ?_ | refine blk_alloc ?_ _)); exact BK435.out)) : gb435 ≠ gb436)); have n6_ := Aside0.mk ((by rw [hg]; exact Nat.ne_of_gt (blk_lt (g := gb435) (o := .cells #[.int .i64 a0_0, .string a0_1] 114 (0, 0)) (by (with_reducible repeat (first | refine blk_drewN ?_ _ | refine blk_drew ?_ | refine blk_alloc ?_ _)); exact BK435.out)) : gb436 ≠ gb435)); clear BK435; clear HB; have BK435 := n0_; have HB := n1_; have BK436 := n2_; have GW436 := n3_; have GE436 := n4_; have NB435_436 := n5_; have NB436_435 := n6_; clear n0_ n1_ n2_ n3_ n4_ n5_ n6_; clear hb hbox hg; have hnb12 := NB435_436.out; have hnc12 := NB436_435.out; have hcz13_0 : w11.cell? ⟨gb435, 0, none⟩ = some (.int .i64 a0_0) := (blk_cell BK435.out 0).trans rfl; have hcz13_1 : w11.cell? ⟨gb435, 1, none⟩ = some (.string a0_1) := (blk_cell BK435.out 1).trans rfl; have hfz13_0 := blk_frozen BK435.out 0; have hfz13_1 := blk_frozen BK435.out 1; have hcz14_0 : w11.cell? ⟨gb436, 0, none⟩ = some (.int .i64 a1_0) := (blk_cell BK436.out 0).trans rfl; have hcz14_1 : w11.cell? ⟨gb436, 1, none⟩ = some (.string a1_1) := (blk_cell BK436.out 1).trans rfl; have hfz14_0 := blk_frozen BK436.out 0; have hfz14_1 := blk_frozen BK436.out 1))
      go_ret
      exact ⟨by first | rfl | (simp [errW_none, errW_some] <;> rfl) | (simp [*, errW_none, errW_some] <;> rfl), by repeat (first | (with_reducible first | exact HB.out | apply below_alloc | apply pw_below_drewN | apply below_drew1 | refine below_set ?_ GE435.out | refine below_set ?_ GE436.out) | exact HB.out)⟩
  · rw [if_neg c3] at H
    have c3b0 : (a0_0 == a1_0) = false := beq_eq_false_iff_ne.mpr c3
    have c3b1 : (a0_0 != a1_0) = true := bne_iff_ne.mpr c3
    obtain rfl := Option.some.inj H
    go_enter Try.func123, Try.ntmps123
    go_wp2_with (first | ((with_reducible refine gate_dst (N := 2) rfl ?_); refine box_event ?hg (N := 2) ?hd (cs := #[.int .i64 a0_0, .string a0_1]) (t := 114) ?hr ?_; (case hd => rfl); (case hg => rfl); (case hr => first | (go_simp; done) | (go_simp; rfl)); intro gb435 hg w15 hbox hb; have n0_ := Aside0.mk (below_step (by repeat (first | (with_reducible first | exact HB.out | apply below_alloc | apply pw_below_drewN | apply below_drew1) | exact HB.out)) hb); have n1_ := Aside0.mk (hbox); have n2_ := Aside0.mk ((by rw [hg]; exact (below_size (by repeat (first | (with_reducible first | exact HB.out | apply below_alloc | apply pw_below_drewN | apply below_drew1) | exact HB.out))) : w.heap.size ≤ gb435)); have n3_ := Aside0.mk ((by rw [hg]; exact (below_size (by repeat (first | (with_reducible first | exact HB.out | apply below_alloc | apply pw_below_drewN | apply below_drew1) | exact HB.out))) : w.heap.size ≤ gb435)); clear HB; have HB := n0_; have BK435 := n1_; have GW435 := n2_; have GE435 := n3_; clear n0_ n1_ n2_ n3_; clear hb hbox hg) | ((with_reducible refine gate_dst (N := 3) rfl ?_); refine box_event ?hg (N := 3) ?hd (cs := #[.int .i64 a1_0, .string a1_1]) (t := 114) ?hr ?_; (case hd => rfl); (case hg => rfl); (case hr => first | (go_simp; done) | (go_simp; rfl)); intro gb436 hg w16 hbox hb; have n0_ := Aside0.mk (blk_below (g := gb435) (o := .cells #[.int .i64 a0_0, .string a0_1] 114 (0, 0)) (by (with_reducible repeat (first | refine blk_drewN ?_ _ | refine blk_drew ?_ | refine blk_alloc ?_ _)); exact BK435.out) hb); have n1_ := Aside0.mk (below_step (by repeat (first | (with_reducible first | exact HB.out | apply below_alloc | apply pw_below_drewN | apply below_drew1 | refine below_set ?_ GE435.out) | exact HB.out)) hb); have n2_ := Aside0.mk (hbox); have n3_ := Aside0.mk ((by rw [hg]; exact (below_size (by repeat (first | (with_reducible first | exact HB.out | apply below_alloc | apply pw_below_drewN | apply below_drew1 | refine below_set ?_ GE435.out) | exact HB.out))) : w.heap.size ≤ gb436)); have n4_ := Aside0.mk ((by rw [hg]; exact (below_size (by repeat (first | (with_reducible first | exact HB.out | apply below_alloc | apply pw_below_drewN | apply below_drew1 | refine below_set ?_ GE435.out) | exact HB.out))) : w.heap.size ≤ gb436)); have n5_ := Aside0.mk ((by rw [hg]; exact Nat.ne_of_lt (blk_lt (g := gb435) (o := .cells #[.int .i64 a0_0, .string a0_1] 114 (0, 0)) (by (with_reducible repeat (first | refine blk_drewN ?_ _ | refine blk_drew ?_ | refine blk_alloc ?_ _)); exact BK435.out)) : gb435 ≠ gb436)); have n6_ := Aside0.mk ((by rw [hg]; exact Nat.ne_of_gt (blk_lt (g := gb435) (o := .cells #[.int .i64 a0_0, .string a0_1] 114 (0, 0)) (by (with_reducible repeat (first | refine blk_drewN ?_ _ | refine blk_drew ?_ | refine blk_alloc ?_ _)); exact BK435.out)) : gb436 ≠ gb435)); clear BK435; clear HB; have BK435 := n0_; have HB := n1_; have BK436 := n2_; have GW436 := n3_; have GE436 := n4_; have NB435_436 := n5_; have NB436_435 := n6_; clear n0_ n1_ n2_ n3_ n4_ n5_ n6_; clear hb hbox hg; have hnb17 := NB435_436.out; have hnc17 := NB436_435.out; have hcz18_0 : w16.cell? ⟨gb435, 0, none⟩ = some (.int .i64 a0_0) := (blk_cell BK435.out 0).trans rfl; have hcz18_1 : w16.cell? ⟨gb435, 1, none⟩ = some (.string a0_1) := (blk_cell BK435.out 1).trans rfl; have hfz18_0 := blk_frozen BK435.out 0; have hfz18_1 := blk_frozen BK435.out 1; have hcz19_0 : w16.cell? ⟨gb436, 0, none⟩ = some (.int .i64 a1_0) := (blk_cell BK436.out 0).trans rfl; have hcz19_1 : w16.cell? ⟨gb436, 1, none⟩ = some (.string a1_1) := (blk_cell BK436.out 1).trans rfl; have hfz19_0 := blk_frozen BK436.out 0; have hfz19_1 := blk_frozen BK436.out 1))
    go_ret
    exact ⟨by first | rfl | (simp [errW_none, errW_some] <;> rfl) | (simp [*, errW_none, errW_some] <;> rfl), by repeat (first | (with_reducible first | exact HB.out | apply below_alloc | apply pw_below_drewN | apply below_drew1 | refine below_set ?_ GE435.out | refine below_set ?_ GE436.out) | exact HB.out)⟩

end Go.Proofs.Ytijbejiajaiciaa.PC

/- Functions of the translation as plain Lean functions, and for each that its call comes to just what its Lean function answers; its conditions stand in each theorem. Written by a program of this session. -/
namespace Go.Proofs.Ytijbejiajaiciaa.PC
open Go.RowKit Go.Proofs.YtijbejiajaiciaaW.PrintWords Go.Proofs.YtijbejiajaiciaaW.PrintLast Go.Proofs.YtijbejiajaiciaaW.PrintMore
attribute [local go_sem] max2_int min2_int max_two min_two max_three min_three max_four min_four   -- for this text's walks alone
set_option linter.unusedVariables false
set_option linter.unusedSimpArgs false

/-! ### laws_eqLeafS: function 117 -/
def laws_eqLeafS.l0 : Nat → List (S114) → List (S114) → Int → Option (Bool)
  | 0, _, _, _ => none
  | k + 1, x0, x1, x5 => if x5 < (x0.length : Int) then (if 0 ≤ x5 then (if x5 < (x1.length : Int) then ((laws_eqLeaf.f ((rd_T114 x0 x5).f0) ((rd_T114 x0 x5).f1) ((rd_T114 x1 x5).f0) ((rd_T114 x1 x5).f1)).bind fun t439 => (if t439 = true then (laws_eqLeafS.l0 k x0 x1 (wrap64 (x5 + 1))) else (some false))) else (none)) else (none)) else (some true)
def laws_eqLeafS.f (k : Nat) (l0 : List (S114)) (l1 : List (S114)) : Option (Bool) := if (l0.length : Int) = (l1.length : Int) then (laws_eqLeafS.l0 k l0 l1 0) else (some false)
theorem laws_eqLeafS.mono_l : ∀ k, (∀ y0 y1 y2, LeO (laws_eqLeafS.l0 k y0 y1 y2) (laws_eqLeafS.l0 (k + 1) y0 y1 y2))
  | 0 => fun _ _ _ r h => by simp [laws_eqLeafS.l0] at h
  | k + 1 => by
    have ih0 := laws_eqLeafS.mono_l k
    · intro y0 y1 y2
      unfold laws_eqLeafS.l0
      repeat' first
      | (with_reducible exact ih0 _ _ _)
      | (with_reducible exact LeO.refl _)
      | (with_reducible exact LeO.none _)
      | (with_reducible refine LeO.ite ?_ ?_)
      | (with_reducible refine LeO.bind ?_ (fun _ => ?_))
      | exact ih0 _ _ _
      | exact LeO.none _
      | refine LeO.ite ?_ ?_
      | refine LeO.bind ?_ (fun _ => ?_)
theorem laws_eqLeafS.mono : ∀ a0 a1 k, LeO (laws_eqLeafS.f k a0 a1) (laws_eqLeafS.f (k + 1) a0 a1) := by
  intro a0 a1 k
  have ih0 := laws_eqLeafS.mono_l k
  unfold laws_eqLeafS.f
  repeat' first
      | (with_reducible exact ih0 _ _ _)
      | (with_reducible exact LeO.refl _)
      | (with_reducible exact LeO.none _)
      | (with_reducible refine LeO.ite ?_ ?_)
      | (with_reducible refine LeO.bind ?_ (fun _ => ?_))
      | exact ih0 _ _ _
      | exact LeO.none _
      | refine LeO.ite ?_ ?_
      | refine LeO.bind ?_ (fun _ => ?_)
def laws_eqLeafS.T6 : Bool × List (List Nat × List Nat) := (true, [([], []), ([], []), ([0, 1], [0, 1]), ([2], [2]), ([], []), ([], []), ([4, 5], [4, 5]), ([6], [6]), ([3, 7], [3, 7]), ([8], [8])])
def laws_eqLeafS.B6 : List Nat := [0, 0, 3, 7, 0, 0, 48, 112, 255, 511]
theorem laws_eqLeafS.tab6 : rtab .any (opsOf Try.f117 6) = laws_eqLeafS.T6 := by kernel_rfl
theorem laws_eqLeafS.bits6 : waitsOk laws_eqLeafS.T6.2 laws_eqLeafS.B6 = true := by kernel_rfl
set_option maxHeartbeats 8000000 in
set_option maxRecDepth 100000 in
theorem laws_eqLeafS.calls (k : Nat) (A0 : Option Addr) (c0 : Nat) (l0 : List (S114)) (A1 : Option Addr) (c1 : Nat) (l1 : List (S114)) (r : Bool) (w : World) (hr0 : Kd.C k114 w A0 l0.length l0) (hc0 : l0.length ≤ c0) (hr1 : Kd.C k114 w A1 l1.length l1) (hc1 : l1.length ≤ c1) (h : laws_eqLeafS.f k l0 l1 = some r) :
    Calls Try.prog 117 #[.slice A0 l0.length c0, .slice A1 l1.length c1] w fun e w' => e = .returned (.bool r) ∧ Below w.heap.size w w' := by
  have hu114 := Try.underlying114
  have HR0 := Aside0.mk hr0
  have HC0 := Aside0.mk hc0
  clear hr0 hc0
  have HR1 := Aside0.mk hr1
  have HC1 := Aside0.mk hc1
  clear hr1 hc1
  have HB := Aside0.mk (Below.refl w.heap.size w)
  have H : (if (l0.length : Int) = (l1.length : Int) then (laws_eqLeafS.l0 k l0 l1 0) else (some false)) = some r := h
  clear h
  by_cases c3 : (l0.length : Int) = (l1.length : Int)
  · rw [if_pos c3] at H
    have c3b0 : ((l0.length : Int) == (l1.length : Int)) = true := beq_iff_eq.mpr c3
    have c3b1 : ((l0.length : Int) != (l1.length : Int)) = false := bne_eq_false_iff_eq.mpr c3
    have c3b2 : (l0.length == l1.length) = true := by first | simpa using c3 | (simp at c3 ⊢; omega)
    clear c3
    have H' := Aside0.mk H
    clear H
    go_enter Try.func117, Try.ntmps117
    go_wp2
    go_loopg [5] k (fun kq v5 w' => ∃ (x5_1 : Int), v5 = .int .i64 x5_1 ∧ Aside0 (laws_eqLeafS.l0 kq l0 l1 x5_1 = some r) ∧ Aside0 (kq ≤ k) ∧ Aside0 (Below w.heap.size w w'))
    case atStart => exact ⟨(0), (by first | rfl | (simp; done) | (simp [*]; done)), H', ⟨Nat.le_refl _⟩, ⟨by repeat (first | (with_reducible first | exact HB.out | apply below_alloc | apply pw_below_drewN | apply below_drew1) | exact HB.out)⟩⟩
    case round =>
      clear H'
      try clear c1
      try clear p2
      try clear c3
      try clear c3b0
      try clear c3b1
      try clear c3b2
      obtain ⟨x5_1, rfl, HA, HK1, HB⟩ := hrel
      cases gk with
      | zero => exact absurd HA.out (by simp [laws_eqLeafS.l0])
      | succ k1 =>
        have H := HA.out
        clear HA
        simp only [laws_eqLeafS.l0] at H
        by_cases c4 : x5_1 < (l0.length : Int)
        · rw [if_pos c4] at H
          have c4b0 : decide (x5_1 < (l0.length : Int)) = true := decide_eq_true c4
          clear c4
          by_cases c5 : 0 ≤ x5_1
          · rw [if_pos c5] at H
            have c5b0 : decide (0 ≤ x5_1) = true := decide_eq_true c5
            clear c5
            by_cases c6 : x5_1 < (l1.length : Int)
            · rw [if_pos c6] at H
              have c6b0 : decide (x5_1 < (l1.length : Int)) = true := decide_eq_true c6
              clear c6
              replace H := Option.bind_eq_some_iff.mp H
              obtain ⟨t439, A70, H⟩ := H
              replace H : (if t439 = true then (laws_eqLeafS.l0 k1 l0 l1 (wrap64 (x5_1 + 1))) else (some false)) = some r := H
              have A7 := Aside0.mk A70
              clear A70
              by_cases c8 : t439 = true
              · subst c8
                have H1 : (laws_eqLeafS.l0 k1 l0 l1 (wrap64 (x5_1 + 1))) = some r := by rw [if_pos rfl] at H; exact H
                clear H
                have H := H1
                clear H1
                have H' := Aside0.mk H
                clear H
                try go_wp2
                have n0_ := Aside0.mk (below_drew1 HB.out)
                clear HB
                have HB := n0_
                clear n0_
                have p437 : 0 ≤ (x5_1 : Int) := of_decide_eq_true (by first | (with_reducible assumption) | assumption)
                have q437 : x5_1 < (l0.length : Int) := of_decide_eq_true (by first | (with_reducible assumption) | assumption)
                obtain ⟨ad437, e437, hx437_0, hx437_1⟩ := at_T114 HR0.out x5_1 p437 q437
                have hw437_1 := hx437_1
                have hw437_0 := hx437_0
                cases e437
                replace hx437_0 := (HB.out.cell (World.block_lt_of_cell? w _ hx437_0)).trans hx437_0
                replace hx437_1 := (HB.out.cell (World.block_lt_of_cell? w _ hx437_1)).trans hx437_1
                replace p437 := eq_true p437
                replace q437 := eq_true q437
                have p438 : 0 ≤ (x5_1 : Int) := of_decide_eq_true (by first | (with_reducible assumption) | assumption)
                have q438 : x5_1 < (l1.length : Int) := of_decide_eq_true (by first | (with_reducible assumption) | assumption)
                obtain ⟨ad438, e438, hx438_0, hx438_1⟩ := at_T114 HR1.out x5_1 p438 q438
                have hw438_1 := hx438_1
                have hw438_0 := hx438_0
                cases e438
                replace hx438_0 := (HB.out.cell (World.block_lt_of_cell? w _ hx438_0)).trans hx438_0
                replace hx438_1 := (HB.out.cell (World.block_lt_of_cell? w _ hx438_1)).trans hx438_1
                replace p438 := eq_true p438
                replace q438 := eq_true q438
                refine start_ (n := 10) (S := fun w' => w'.cell? (ad437.add ((x5_1).toNat * 2)) = some (.int .i64 ((rd_T114 l0 x5_1).f0)) ∧ w'.cell? ⟨(ad437.add ((x5_1).toNat * 2)).block, (ad437.add ((x5_1).toNat * 2)).off + 1, none⟩ = some (.string ((rd_T114 l0 x5_1).f1)) ∧ w'.cell? (ad438.add ((x5_1).toNat * 2)) = some (.int .i64 ((rd_T114 l1 x5_1).f0)) ∧ w'.cell? ⟨(ad438.add ((x5_1).toNat * 2)).block, (ad438.add ((x5_1).toNat * 2)).off + 1, none⟩ = some (.string ((rd_T114 l1 x5_1).f1))) (ds := []) #[false, false, false, false, false, false, false, false, false, false] (by kernel_rfl) rfl rfl ⟨((HB.out.cell (World.block_lt_of_cell? w _ hw437_0)).trans hw437_0), ((HB.out.cell (World.block_lt_of_cell? w _ hw437_1)).trans hw437_1), ((HB.out.cell (World.block_lt_of_cell? w _ hw438_0)).trans hw438_0), ((HB.out.cell (World.block_lt_of_cell? w _ hw438_1)).trans hw438_1)⟩ (fun hHeld => ?_); refine with_tabW laws_eqLeafS.tab6 laws_eqLeafS.bits6 (fun HT_ HW_ => ?_)
                generalize wr.drew = w9 at HB hx437_0 hx437_1 hx438_0 hx438_1 hHeld ⊢
                refine pure_ (i := 0) (N := some 17) (v := ?_) (a' := ?_) #[true, false, false, false, false, false, false, false, false, false] rfl rfl (any_of HT_.out (by kernel_rfl)) (fun _ _ _ h => h) (Or.inl ⟨by rfl, ?_⟩) ?_ ?_
                rotate_left
                · intro w'
                  go_simp
                  with_reducible rfl
                rotate_left
                · simp only [Act.put, List.setIfInBounds_toArray, List.set_cons_zero, List.set_cons_succ, i64_w, i32_w]
                  rfl
                refine pure_ (i := 1) (N := some 18) (v := ?_) (a' := ?_) #[true, true, false, false, false, false, false, false, false, false] rfl rfl (any_of HT_.out (by kernel_rfl)) (fun _ _ _ h => h) (Or.inl ⟨by rfl, ?_⟩) ?_ ?_
                rotate_left
                · intro w'
                  go_simp
                  with_reducible rfl
                rotate_left
                · simp only [Act.put, List.setIfInBounds_toArray, List.set_cons_zero, List.set_cons_succ, i64_w, i32_w]
                  rfl
                refine pure_ (i := 2) (N := some 19) (v := ?_) (a' := ?_) #[true, true, true, false, false, false, false, false, false, false] rfl rfl (any_of HT_.out (by kernel_rfl)) (fun _ _ _ h => h) (Or.inl ⟨by rfl, ?_⟩) ?_ ?_
                rotate_left
                · intro w'
                  go_simp
                  with_reducible rfl
                rotate_left
                · simp only [Act.put, List.setIfInBounds_toArray, List.set_cons_zero, List.set_cons_succ, i64_w, i32_w]
                  rfl
                refine pure_ (i := 4) (N := some 21) (v := ?_) (a' := ?_) #[true, true, true, false, true, false, false, false, false, false] rfl rfl (any_of HT_.out (by kernel_rfl)) (fun _ _ _ h => h) (Or.inl ⟨by rfl, ?_⟩) ?_ ?_
                rotate_left
                · intro w'
                  go_simp
                  with_reducible rfl
                rotate_left
                · simp only [Act.put, List.setIfInBounds_toArray, List.set_cons_zero, List.set_cons_succ, i64_w, i32_w]
                  rfl
                refine pure_ (i := 5) (N := some 22) (v := ?_) (a' := ?_) #[true, true, true, false, true, true, false, false, false, false] rfl rfl (any_of HT_.out (by kernel_rfl)) (fun _ _ _ h => h) (Or.inl ⟨by rfl, ?_⟩) ?_ ?_
                rotate_left
                · intro w'
                  go_simp
                  with_reducible rfl
                rotate_left
                · simp only [Act.put, List.setIfInBounds_toArray, List.set_cons_zero, List.set_cons_succ, i64_w, i32_w]
                  rfl
                refine pure_ (i := 6) (N := some 23) (v := ?_) (a' := ?_) #[true, true, true, false, true, true, true, false, false, false] rfl rfl (any_of HT_.out (by kernel_rfl)) (fun _ _ _ h => h) (Or.inl ⟨by rfl, ?_⟩) ?_ ?_
                rotate_left
                · intro w'
                  go_simp
                  with_reducible rfl
                rotate_left
                · simp only [Act.put, List.setIfInBounds_toArray, List.set_cons_zero, List.set_cons_succ, i64_w, i32_w]
                  rfl
                refine take_ (i := 3) (N := some 20) (v := ?_) (a' := ?_) #[true, true, true, true, true, true, true, false, false, false] rfl rfl (take_ofW HT_.out HW_.out (by kernel_rfl)) (fun _ _ _ h => h) (Or.inl ⟨by rfl, ?_⟩) hHeld ?_ ?_
                rotate_left
                · rintro w' ⟨s0, s1, s2, s3⟩
                  go_simp
                  with_reducible rfl
                rotate_left
                · simp only [Act.put, List.setIfInBounds_toArray, List.set_cons_zero, List.set_cons_succ, i64_w, i32_w]
                  rfl
                refine take_ (i := 7) (N := some 24) (v := ?_) (a' := ?_) #[true, true, true, true, true, true, true, true, false, false] rfl rfl (take_ofW HT_.out HW_.out (by kernel_rfl)) (fun _ _ _ h => h) (Or.inl ⟨by rfl, ?_⟩) hHeld ?_ ?_
                rotate_left
                · rintro w' ⟨s0, s1, s2, s3⟩
                  go_simp
                  with_reducible rfl
                rotate_left
                · simp only [Act.put, List.setIfInBounds_toArray, List.set_cons_zero, List.set_cons_succ, i64_w, i32_w]
                  rfl
                refine one_ (i := 8) (N := some 25) #[true, true, true, true, true, true, true, true, true, false] rfl rfl (one_of HT_.out (by kernel_rfl)) (by decide) (fun K hK => ?_)
                refine goes_ Try.func123 (by kernel_rfl) rfl #[.agg #[.int .i64 ((rd_T114 l0 x5_1).f0), .string ((rd_T114 l0 x5_1).f1)], .agg #[.int .i64 ((rd_T114 l1 x5_1).f0), .string ((rd_T114 l1 x5_1).f1)]] (by rfl) rfl rfl (by (try simp only [List.map_toArray, List.map_cons, List.map_nil]); first | done | rfl | (simp only [List.length_drop, List.length_take]; rfl)) ?_
                with_reducible refine (laws_eqLeaf.calls ((rd_T114 l0 x5_1).f0) ((rd_T114 l0 x5_1).f1) ((rd_T114 l1 x5_1).f0) ((rd_T114 l1 x5_1).f1) true _ A7.out).mono ?_
                rintro e w10 ⟨rfl, hb⟩
                refine ⟨_, rfl, ?_⟩
                have n0_ := Aside0.mk (below_step (by repeat (first | (with_reducible first | exact HB.out | apply below_alloc | apply pw_below_drewN | apply below_drew1) | exact HB.out)) hb)
                clear HB
                have HB := n0_
                clear n0_
                (try clear hb)
                (try clear hb2)
                (try clear hk)
                (try clear hi)
                refine hK.out _ _ ⟨((HB.out.cell (World.block_lt_of_cell? w _ hw437_0)).trans hw437_0), ((HB.out.cell (World.block_lt_of_cell? w _ hw437_1)).trans hw437_1), ((HB.out.cell (World.block_lt_of_cell? w _ hw438_0)).trans hw438_0), ((HB.out.cell (World.block_lt_of_cell? w _ hw438_1)).trans hw438_1)⟩ (fun hHeld => ?_)
                clear hK K
                refine norm_ (a' := ?_) ?_ ?_
                rotate_left
                · show Act.put _ (some 25) _ = _
                  simp only [Act.put, List.setIfInBounds_toArray, List.set_cons_zero, List.set_cons_succ, i64_w, i32_w]
                  rfl
                refine pure_ (i := 9) (N := some 26) (v := ?_) (a' := ?_) #[true, true, true, true, true, true, true, true, true, true] rfl rfl (any_of HT_.out (by kernel_rfl)) (fun _ _ _ h => h) (Or.inl ⟨by rfl, ?_⟩) ?_ ?_
                rotate_left
                · intro w'
                  go_simp
                  with_reducible rfl
                rotate_left
                · simp only [Act.put, List.setIfInBounds_toArray, List.set_cons_zero, List.set_cons_succ, i64_w, i32_w]
                  rfl
                refine done_ (done_of HT_.out (by kernel_rfl)) ?_
                try go_wp2
                go_roundg k1
                case measure => have := HK1.out; omega
                case rel => exact ⟨(wrap64 (x5_1 + 1)), (by first | rfl | (simp; done) | (simp [*]; done)), H', ⟨by have := HK1.out; omega⟩, ⟨by repeat (first | (with_reducible first | exact HB.out | apply below_alloc | apply pw_below_drewN | apply below_drew1) | exact HB.out)⟩⟩
              · replace c8 := Bool.eq_false_iff.mpr c8
                subst c8
                have H1 : (some false) = some r := by rw [if_neg (show ¬ (false = true) by decide)] at H; exact H
                clear H
                have H := H1
                clear H1
                obtain rfl := Option.some.inj H
                try go_wp2
                have n0_ := Aside0.mk (below_drew1 HB.out)
                clear HB
                have HB := n0_
                clear n0_
                have p437 : 0 ≤ (x5_1 : Int) := of_decide_eq_true (by first | (with_reducible assumption) | assumption)
                have q437 : x5_1 < (l0.length : Int) := of_decide_eq_true (by first | (with_reducible assumption) | assumption)
                obtain ⟨ad437, e437, hx437_0, hx437_1⟩ := at_T114 HR0.out x5_1 p437 q437
                have hw437_1 := hx437_1
                have hw437_0 := hx437_0
                cases e437
                replace hx437_0 := (HB.out.cell (World.block_lt_of_cell? w _ hx437_0)).trans hx437_0
                replace hx437_1 := (HB.out.cell (World.block_lt_of_cell? w _ hx437_1)).trans hx437_1
                replace p437 := eq_true p437
                replace q437 := eq_true q437
                have p438 : 0 ≤ (x5_1 : Int) := of_decide_eq_true (by first | (with_reducible assumption) | assumption)
                have q438 : x5_1 < (l1.length : Int) := of_decide_eq_true (by first | (with_reducible assumption) | assumption)
                obtain ⟨ad438, e438, hx438_0, hx438_1⟩ := at_T114 HR1.out x5_1 p438 q438
                have hw438_1 := hx438_1
                have hw438_0 := hx438_0
                cases e438
                replace hx438_0 := (HB.out.cell (World.block_lt_of_cell? w _ hx438_0)).trans hx438_0
                replace hx438_1 := (HB.out.cell (World.block_lt_of_cell? w _ hx438_1)).trans hx438_1
                replace p438 := eq_true p438
                replace q438 := eq_true q438
                refine start_ (n := 10) (S := fun w' => w'.cell? (ad437.add ((x5_1).toNat * 2)) = some (.int .i64 ((rd_T114 l0 x5_1).f0)) ∧ w'.cell? ⟨(ad437.add ((x5_1).toNat * 2)).block, (ad437.add ((x5_1).toNat * 2)).off + 1, none⟩ = some (.string ((rd_T114 l0 x5_1).f1)) ∧ w'.cell? (ad438.add ((x5_1).toNat * 2)) = some (.int .i64 ((rd_T114 l1 x5_1).f0)) ∧ w'.cell? ⟨(ad438.add ((x5_1).toNat * 2)).block, (ad438.add ((x5_1).toNat * 2)).off + 1, none⟩ = some (.string ((rd_T114 l1 x5_1).f1))) (ds := []) #[false, false, false, false, false, false, false, false, false, false] (by kernel_rfl) rfl rfl ⟨((HB.out.cell (World.block_lt_of_cell? w _ hw437_0)).trans hw437_0), ((HB.out.cell (World.block_lt_of_cell? w _ hw437_1)).trans hw437_1), ((HB.out.cell (World.block_lt_of_cell? w _ hw438_0)).trans hw438_0), ((HB.out.cell (World.block_lt_of_cell? w _ hw438_1)).trans hw438_1)⟩ (fun hHeld => ?_); refine with_tabW laws_eqLeafS.tab6 laws_eqLeafS.bits6 (fun HT_ HW_ => ?_)
                generalize wr.drew = w11 at HB hx437_0 hx437_1 hx438_0 hx438_1 hHeld ⊢
                refine pure_ (i := 0) (N := some 17) (v := ?_) (a' := ?_) #[true, false, false, false, false, false, false, false, false, false] rfl rfl (any_of HT_.out (by kernel_rfl)) (fun _ _ _ h => h) (Or.inl ⟨by rfl, ?_⟩) ?_ ?_
                rotate_left
                · intro w'
                  go_simp
                  with_reducible rfl
                rotate_left
                · simp only [Act.put, List.setIfInBounds_toArray, List.set_cons_zero, List.set_cons_succ, i64_w, i32_w]
                  rfl
                refine pure_ (i := 1) (N := some 18) (v := ?_) (a' := ?_) #[true, true, false, false, false, false, false, false, false, false] rfl rfl (any_of HT_.out (by kernel_rfl)) (fun _ _ _ h => h) (Or.inl ⟨by rfl, ?_⟩) ?_ ?_
                rotate_left
                · intro w'
                  go_simp
                  with_reducible rfl
                rotate_left
                · simp only [Act.put, List.setIfInBounds_toArray, List.set_cons_zero, List.set_cons_succ, i64_w, i32_w]
                  rfl
                refine pure_ (i := 2) (N := some 19) (v := ?_) (a' := ?_) #[true, true, true, false, false, false, false, false, false, false] rfl rfl (any_of HT_.out (by kernel_rfl)) (fun _ _ _ h => h) (Or.inl ⟨by rfl, ?_⟩) ?_ ?_
                rotate_left
                · intro w'
                  go_simp
                  with_reducible rfl
                rotate_left
                · simp only [Act.put, List.setIfInBounds_toArray, List.set_cons_zero, List.set_cons_succ, i64_w, i32_w]
                  rfl
                refine pure_ (i := 4) (N := some 21) (v := ?_) (a' := ?_) #[true, true, true, false, true, false, false, false, false, false] rfl rfl (any_of HT_.out (by kernel_rfl)) (fun _ _ _ h => h) (Or.inl ⟨by rfl, ?_⟩) ?_ ?_
                rotate_left
                · intro w'
                  go_simp
                  with_reducible rfl
                rotate_left
                · simp only [Act.put, List.setIfInBounds_toArray, List.set_cons_zero, List.set_cons_succ, i64_w, i32_w]
                  rfl
                refine pure_ (i := 5) (N := some 22) (v := ?_) (a' := ?_) #[true, true, true, false, true, true, false, false, false, false] rfl rfl (any_of HT_.out (by kernel_rfl)) (fun _ _ _ h => h) (Or.inl ⟨by rfl, ?_⟩) ?_ ?_
                rotate_left
                · intro w'
                  go_simp
                  with_reducible rfl
                rotate_left
                · simp only [Act.put, List.setIfInBounds_toArray, List.set_cons_zero, List.set_cons_succ, i64_w, i32_w]
                  rfl
                refine pure_ (i := 6) (N := some 23) (v := ?_) (a' := ?_) #[true, true, true, false, true, true, true, false, false, false] rfl rfl (any_of HT_.out (by kernel_rfl)) (fun _ _ _ h => h) (Or.inl ⟨by rfl, ?_⟩) ?_ ?_
                rotate_left
                · intro w'
                  go_simp
                  with_reducible rfl
                rotate_left
                · simp only [Act.put, List.setIfInBounds_toArray, List.set_cons_zero, List.set_cons_succ, i64_w, i32_w]
                  rfl
                refine take_ (i := 3) (N := some 20) (v := ?_) (a' := ?_) #[true, true, true, true, true, true, true, false, false, false] rfl rfl (take_ofW HT_.out HW_.out (by kernel_rfl)) (fun _ _ _ h => h) (Or.inl ⟨by rfl, ?_⟩) hHeld ?_ ?_
                rotate_left
                · rintro w' ⟨s0, s1, s2, s3⟩
                  go_simp
                  with_reducible rfl
                rotate_left
                · simp only [Act.put, List.setIfInBounds_toArray, List.set_cons_zero, List.set_cons_succ, i64_w, i32_w]
                  rfl
                refine take_ (i := 7) (N := some 24) (v := ?_) (a' := ?_) #[true, true, true, true, true, true, true, true, false, false] rfl rfl (take_ofW HT_.out HW_.out (by kernel_rfl)) (fun _ _ _ h => h) (Or.inl ⟨by rfl, ?_⟩) hHeld ?_ ?_
                rotate_left
                · rintro w' ⟨s0, s1, s2, s3⟩
                  go_simp
                  with_reducible rfl
                rotate_left
                · simp only [Act.put, List.setIfInBounds_toArray, List.set_cons_zero, List.set_cons_succ, i64_w, i32_w]
                  rfl
                refine one_ (i := 8) (N := some 25) #[true, true, true, true, true, true, true, true, true, false] rfl rfl (one_of HT_.out (by kernel_rfl)) (by decide) (fun K hK => ?_)
                refine goes_ Try.func123 (by kernel_rfl) rfl #[.agg #[.int .i64 ((rd_T114 l0 x5_1).f0), .string ((rd_T114 l0 x5_1).f1)], .agg #[.int .i64 ((rd_T114 l1 x5_1).f0), .string ((rd_T114 l1 x5_1).f1)]] (by rfl) rfl rfl (by (try simp only [List.map_toArray, List.map_cons, List.map_nil]); first | done | rfl | (simp only [List.length_drop, List.length_take]; rfl)) ?_
                with_reducible refine (laws_eqLeaf.calls ((rd_T114 l0 x5_1).f0) ((rd_T114 l0 x5_1).f1) ((rd_T114 l1 x5_1).f0) ((rd_T114 l1 x5_1).f1) false _ A7.out).mono ?_
                rintro e w12 ⟨rfl, hb⟩
                refine ⟨_, rfl, ?_⟩
                have n0_ := Aside0.mk (below_step (by repeat (first | (with_reducible first | exact HB.out | apply below_alloc | apply pw_below_drewN | apply below_drew1) | exact HB.out)) hb)
                clear HB
                have HB := n0_
                clear n0_
                (try clear hb)
                (try clear hb2)
                (try clear hk)
                (try clear hi)
                refine hK.out _ _ ⟨((HB.out.cell (World.block_lt_of_cell? w _ hw437_0)).trans hw437_0), ((HB.out.cell (World.block_lt_of_cell? w _ hw437_1)).trans hw437_1), ((HB.out.cell (World.block_lt_of_cell? w _ hw438_0)).trans hw438_0), ((HB.out.cell (World.block_lt_of_cell? w _ hw438_1)).trans hw438_1)⟩ (fun hHeld => ?_)
                clear hK K
                refine norm_ (a' := ?_) ?_ ?_
                rotate_left
                · show Act.put _ (some 25) _ = _
                  simp only [Act.put, List.setIfInBounds_toArray, List.set_cons_zero, List.set_cons_succ, i64_w, i32_w]
                  rfl
                refine pure_ (i := 9) (N := some 26) (v := ?_) (a' := ?_) #[true, true, true, true, true, true, true, true, true, true] rfl rfl (any_of HT_.out (by kernel_rfl)) (fun _ _ _ h => h) (Or.inl ⟨by rfl, ?_⟩) ?_ ?_
                rotate_left
                · intro w'
                  go_simp
                  with_reducible rfl
                rotate_left
                · simp only [Act.put, List.setIfInBounds_toArray, List.set_cons_zero, List.set_cons_succ, i64_w, i32_w]
                  rfl
                refine done_ (done_of HT_.out (by kernel_rfl)) ?_
                try go_wp2
                go_ret
                exact ⟨by first | rfl | (simp [errW_none, errW_some] <;> rfl) | (simp [*, errW_none, errW_some] <;> rfl), by repeat (first | (with_reducible first | exact HB.out | apply below_alloc | apply pw_below_drewN | apply below_drew1) | exact HB.out)⟩
            · rw [if_neg c6] at H
              exact absurd H (by simp)
          · rw [if_neg c5] at H
            exact absurd H (by simp)
        · rw [if_neg c4] at H
          have c4b0 : decide (x5_1 < (l0.length : Int)) = false := decide_eq_false c4
          clear c4
          obtain rfl := Option.some.inj H
          go_wp2
          go_ret
          exact ⟨by first | rfl | (simp [errW_none, errW_some] <;> rfl) | (simp [*, errW_none, errW_some] <;> rfl), by repeat (first | (with_reducible first | exact HB.out | apply below_alloc | apply pw_below_drewN | apply below_drew1) | exact HB.out)⟩
  · rw [if_neg c3] at H
    have c3b0 : ((l0.length : Int) == (l1.length : Int)) = false := beq_eq_false_iff_ne.mpr c3
    have c3b1 : ((l0.length : Int) != (l1.length : Int)) = true := bne_iff_ne.mpr c3
    have c3b2 : (l0.length == l1.length) = false := by first | simpa using c3 | (simp at c3 ⊢; omega)
    obtain rfl := Option.some.inj H
    go_enter Try.func117, Try.ntmps117
    go_wp2
    go_ret
    exact ⟨by first | rfl | (simp [errW_none, errW_some] <;> rfl) | (simp [*, errW_none, errW_some] <;> rfl), by repeat (first | (with_reducible first | exact HB.out | apply below_alloc | apply pw_below_drewN | apply below_drew1) | exact HB.out)⟩

end Go.Proofs.Ytijbejiajaiciaa.PC

/- Functions of the translation as plain Lean functions, and for each that its call comes to just what its Lean function answers; its conditions stand in each theorem. Written by a program of this session. -/
namespace Go.Proofs.Ytijbejiajaiciaa.PC
open Go.RowKit Go.Proofs.YtijbejiajaiciaaW.PrintWords Go.Proofs.YtijbejiajaiciaaW.PrintLast Go.Proofs.YtijbejiajaiciaaW.PrintMore
attribute [local go_sem] max2_int min2_int max_two min_two max_three min_three max_four min_four   -- for this text's walks alone
set_option linter.unusedVariables false
set_option linter.unusedSimpArgs false

/-! ### laws_eqBlock: function 103 -/
def laws_eqBlock.f (k : Nat) (a0_0 : Bool) (a0_1 : Int) (l0_2 : List (S114)) (a1_0 : Bool) (a1_1 : Int) (l1_2 : List (S114)) : Option (Bool) := if (a0_0 != a1_0) = true then (some false) else (if a0_1 = a1_1 then ((laws_eqLeafS.f k l0_2 l1_2).bind fun t442 => (if t442 = true then (some true) else (some false))) else (some false))
theorem laws_eqBlock.mono : ∀ a0 a1 a2 a3 a4 a5 k, LeO (laws_eqBlock.f k a0 a1 a2 a3 a4 a5) (laws_eqBlock.f (k + 1) a0 a1 a2 a3 a4 a5) := by
  intro a0 a1 a2 a3 a4 a5 k
  unfold laws_eqBlock.f
  repeat' first
      | (with_reducible exact laws_eqLeafS.mono _ _ _)
      | (with_reducible exact LeO.refl _)
      | (with_reducible exact LeO.none _)
      | (with_reducible refine LeO.ite ?_ ?_)
      | (with_reducible refine LeO.bind ?_ (fun _ => ?_))
      | exact laws_eqLeafS.mono _ _ _
      | exact LeO.none _
      | refine LeO.ite ?_ ?_
      | refine LeO.bind ?_ (fun _ => ?_)
set_option maxHeartbeats 8000000 in
set_option maxRecDepth 100000 in
theorem laws_eqBlock.calls (k : Nat) (a0_0 : Bool) (a0_1 : Int) (A0_2 : Option Addr) (c0_2 : Nat) (l0_2 : List (S114)) (a1_0 : Bool) (a1_1 : Int) (A1_2 : Option Addr) (c1_2 : Nat) (l1_2 : List (S114)) (r : Bool) (w : World) (hr0_2 : Kd.C k114 w A0_2 l0_2.length l0_2) (hc0_2 : l0_2.length ≤ c0_2) (hr1_2 : Kd.C k114 w A1_2 l1_2.length l1_2) (hc1_2 : l1_2.length ≤ c1_2) (h : laws_eqBlock.f k a0_0 a0_1 l0_2 a1_0 a1_1 l1_2 = some r) :
    Calls Try.prog 103 #[.agg #[.bool a0_0, .int .i64 a0_1, .slice A0_2 l0_2.length c0_2], .agg #[.bool a1_0, .int .i64 a1_1, .slice A1_2 l1_2.length c1_2]] w fun e w' => e = .returned (.bool r) ∧ Below w.heap.size w w' := by
  have hu112 := Try.underlying112
  have HR0_2 := Aside0.mk hr0_2
  have HC0_2 := Aside0.mk hc0_2
  clear hr0_2 hc0_2
  have HR1_2 := Aside0.mk hr1_2
  have HC1_2 := Aside0.mk hc1_2
  clear hr1_2 hc1_2
  have HB := Aside0.mk (Below.refl w.heap.size w)
  have H : (if (a0_0 != a1_0) = true then (some false) else (if a0_1 = a1_1 then ((laws_eqLeafS.f k l0_2 l1_2).bind fun t442 => (if t442 = true then (some true) else (some false))) else (some false))) = some r := h
  clear h
  by_cases c3 : (a0_0 != a1_0) = true
  · rw [if_pos c3] at H
    have c3b0 : (a0_0 != a1_0) = true := c3
    (try (have c3b1 : decide (a0_0 = a1_0) = false := by simpa using c3))
    (try (have c3b2 : (a0_0 == a1_0) = false := by simpa using c3))
    (try (have c3b3 : ¬ (a0_0 = a1_0) := by simpa using c3))
    clear c3
    obtain rfl := Option.some.inj H
    go_enter Try.func103, Try.ntmps103
    go_wp2_with (first | ((with_reducible refine gate_dst (N := 2) rfl ?_); refine box_event ?hg (N := 2) ?hd (cs := #[.bool a0_0, .int .i64 a0_1, .slice A0_2 l0_2.length c0_2]) (t := 112) ?hr ?_; (case hd => rfl); (case hg => rfl); (case hr => first | (go_simp; done) | (go_simp; rfl)); intro gb440 hg w4 hbox hb; have n0_ := Aside0.mk (below_step (by repeat (first | (with_reducible first | exact HB.out | apply below_alloc | apply pw_below_drewN | apply below_drew1) | exact HB.out)) hb); have n1_ := Aside0.mk (hbox); have n2_ := Aside0.mk ((by rw [hg]; exact (below_size (by repeat (first | (with_reducible first | exact HB.out | apply below_alloc | apply pw_below_drewN | apply below_drew1) | exact HB.out))) : w.heap.size ≤ gb440)); have n3_ := Aside0.mk ((by rw [hg]; exact (below_size (by repeat (first | (with_reducible first | exact HB.out | apply below_alloc | apply pw_below_drewN | apply below_drew1) | exact HB.out))) : w.heap.size ≤ gb440)); clear HB; have HB := n0_; have BK440 := n1_; have GW440 := n2_; have GE440 := n3_; clear n0_ n1_ n2_ n3_; clear hb hbox hg) | ((with_reducible refine gate_dst (N := 3) rfl ?_); refine box_event ?hg (N := 3) ?hd (cs := #[.bool a1_0, .int .i64 a1_1, .slice A1_2 l1_2.length c1_2]) (t := 112) ?hr ?_; (case hd => rfl); (case hg => rfl); (case hr => first | (go_simp; done) | (go_simp; rfl)); intro gb441 hg w5 hbox hb; have n0_ := Aside0.mk (blk_below (g := gb440) (o := .cells #[.bool a0_0, .int .i64 a0_1, .slice A0_2 l0_2.length c0_2] 112 (0, 0)) (by (with_reducible repeat (first | refine blk_drewN ?_ _ | refine blk_drew ?_ | refine blk_alloc ?_ _)); exact BK440.out) hb); have n1_ := Aside0.mk (below_step (by repeat (first | (with_reducible first | exact HB.out | apply below_alloc | apply pw_below_drewN | apply below_drew1 | refine below_set ?_ GE440.out) | exact HB.out)) hb); have n2_ := Aside0.mk (hbox); have n3_ := Aside0.mk ((by rw [hg]; exact (below_size (by repeat (first | (with_reducible first | exact HB.out | apply below_alloc | apply pw_below_drewN | apply below_drew1 | refine below_set ?_ GE440.out) | exact HB.out))) : w.heap.size ≤ gb441)); have n4_ := Aside0.mk ((by rw [hg]; exact (below_size (by repeat (first | (with_reducible first | exact HB.out | apply below_alloc | apply pw_below_drewN | apply below_drew1 | refine below_set ?_ GE440.out) | exact HB.out))) : w.heap.size ≤ gb441)); have n5_ := Aside0.mk ((by rw [hg]; exact Nat.ne_of_lt (blk_lt (g := gb440) (o := .cells #[.bool a0_0, .int .i64 a0_1, .slice A0_2 l0_2.length c0_2] 112 (0, 0)) (by (with_reducible repeat (first | refine blk_drewN ?_ _ | refine blk_drew ?_ | refine blk_alloc ?_ _)); exact BK440.out)) : gb440 ≠ gb441)); have n6_ := Aside0.mk ((by rw [hg]; exact Nat.ne_of_gt (blk_lt (g := gb440) (o := .cells #[.bool a0_0, .int .i64 a0_1, .slice A0_2 l0_2.length c0_2] 112 (0, 0)) (by (with_reducible repeat (first | refine blk_drewN ?_ _ | refine blk_drew ?_ | refine blk_alloc ?_ _)); exact BK440.out)) : gb441 ≠ gb440)); clear BK440; clear HB; have BK440 := n0_; have HB := n1_; have BK441 := n2_; have GW441 := n3_; have GE441 := n4_; have NB440_441 := n5_; have NB441_440 := n6_; clear n0_ n1_ n2_ n3_ n4_ n5_ n6_; clear hb hbox hg; have hnb6 := NB440_441.out; have hnc6 := NB441_440.out; have hcz7_0 : w5.cell? ⟨gb440, 0, none⟩ = some (.bool a0_0) := (blk_cell BK440.out 0).trans rfl; have hcz7_1 : w5.cell? ⟨gb440, 1, none⟩ = some (.int .i64 a0_1) := (blk_cell BK440.out 1).trans rfl; have hcz7_2 : w5.cell? ⟨gb440, 2, none⟩ = some (.slice A0_2 l0_2.length c0_2) := (blk_cell BK440.out 2).trans rfl; have hfz7_0 := blk_frozen BK440.out 0; have hfz7_1 := blk_frozen BK440.out 1; have hfz7_2 := blk_frozen BK440.out 2; have hcz8_0 : w5.cell? ⟨gb441, 0, none⟩ = some (.bool a1_0) := (blk_cell BK441.out 0).trans rfl; have hcz8_1 : w5.cell? ⟨gb441, 1, none⟩ = some (.int .i64 a1_1) := (blk_cell BK441.out 1).trans rfl; have hcz8_2 : w5.cell? ⟨gb441, 2, none⟩ = some (.slice A1_2 l1_2.length c1_2) := (blk_cell BK441.out 2).trans rfl; have hfz8_0 := blk_frozen BK441.out 0; have hfz8_1 := blk_frozen BK441.out 1; have hfz8_2 := blk_frozen BK441.out 2))
    go_ret
    exact ⟨by first | rfl | (simp [errW_none, errW_some] <;> rfl) | (simp [*, errW_none, errW_some] <;> rfl), by repeat (first | (with_reducible first | exact HB.out | apply below_alloc | apply pw_below_drewN | apply below_drew1 | refine below_set ?_ GE440.out | refine below_set ?_ GE441.out) | exact HB.out)⟩
  · rw [if_neg c3] at H
    have c3b0 : (a0_0 != a1_0) = false := by simpa using c3
    (try (have c3b1 : decide (a0_0 = a1_0) = true := by simpa using c3))
    (try (have c3b2 : (a0_0 == a1_0) = true := by simpa using c3))
    clear c3
    by_cases c9 : a0_1 = a1_1
    · rw [if_pos c9] at H
      have c9b0 : (a0_1 == a1_1) = true := beq_iff_eq.mpr c9
      have c9b1 : (a0_1 != a1_1) = false := bne_eq_false_iff_eq.mpr c9
      clear c9
      replace H := Option.bind_eq_some_iff.mp H
      obtain ⟨t442, A100, H⟩ := H
      replace H : (if t442 = true then (some true) else (some false)) = some r := H
      have A10 := Aside0.mk A100
      clear A100
      by_cases c11 : t442 = true
      · subst c11
        have H1 : (some true) = some r := by rw [if_pos rfl] at H; exact H
        clear H
        have H := H1
        clear H1
        obtain rfl := Option.some.inj H
        go_enter Try.func103, Try.ntmps103
        go_wp2_with (first | ((with_reducible refine gate_dst (N := 2) rfl ?_); refine box_event ?hg (N := 2) ?hd (cs := #[.bool a0_0, .int .i64 a0_1, .slice A0_2 l0_2.length c0_2]) (t := 112) ?hr ?_; (case hd => rfl); (case hg => rfl); (case hr => first | (go_simp; done) | (go_simp; rfl)); intro gb440 hg w12 hbox hb; have n0_ := Aside0.mk (below_step (by repeat (first | (with_reducible first | exact HB.out | apply below_alloc | apply pw_below_drewN | apply below_drew1) | exact HB.out)) hb); have n1_ := Aside0.mk (hbox); have n2_ := Aside0.mk ((by rw [hg]; exact (below_size (by repeat (first | (with_reducible first | exact HB.out | apply below_alloc | apply pw_below_drewN | apply below_drew1) | exact HB.out))) : w.heap.size ≤ gb440)); have n3_ := Aside0.mk ((by rw [hg]; exact (below_size (by repeat (first | (with_reducible first | exact HB.out | apply below_alloc | apply pw_below_drewN | apply below_drew1) | exact HB.out))) : w.heap.size ≤ gb440)); clear HB; have HB := n0_; have BK440 := n1_; have GW440 := n2_; have GE440 := n3_; clear n0_ n1_ n2_ n3_; clear hb hbox hg) | ((with_reducible refine gate_dst (N := 3) rfl ?_); refine box_event ?hg (N := 3) ?hd (cs := #[.bool a1_0, .int .i64 a1_1, .slice A1_2 l1_2.length c1_2]) (t := 112) ?hr ?_; (case hd => rfl); (case hg => rfl); (case hr => first | (go_simp; done) | (go_simp; rfl)); intro gb441 hg w13 hbox hb; have n0_ := Aside0.mk (blk_below (g := gb440) (o := .cells #[.bool a0_0, .int .i64 a0_1, .slice A0_2 l0_2.length c0_2] 112 (0, 0)) (by (with_reducible repeat (first | refine blk_drewN ?_ _ | refine blk_drew ?_ | refine blk_alloc ?_ _)); exact BK440.out) hb); have n1_ := Aside0.mk (below_step (by repeat (first | (with_reducible first | exact HB.out | apply below_alloc | apply pw_below_drewN | apply below_drew1 | refine below_set ?_ GE440.out) | exact HB.out)) hb); have n2_ := Aside0.mk (hbox); have n3_ := Aside0.mk ((by rw [hg]; exact (below_size (by repeat (first | (with_reducible first | exact HB.out | apply below_alloc | apply pw_below_drewN | apply below_drew1 | refine below_set ?_ GE440.out) | exact HB.out))) : w.heap.size ≤ gb441)); have n4_ := Aside0.mk ((by rw [hg]; exact (below_size (by repeat (first | (with_reducible first | exact HB.out | apply below_alloc | apply pw_below_drewN | apply below_drew1 | refine below_set ?_ GE440.out) | exact HB.out))) : w.heap.size ≤ gb441)); have n5_ := Aside0.mk ((by rw [hg]; exact Nat.ne_of_lt (blk_lt (g := gb440) (o := .cells #[.bool a0_0, .int .i64 a0_1, .slice A0_2 l0_2.length c0_2] 112 (0, 0)) (by (with_reducible repeat (first | refine blk_drewN ?_ _ | refine blk_drew ?_ | refine blk_alloc ?_ _)); exact BK440.out)) : gb440 ≠ gb441)); have n6_ := Aside0.mk ((by rw [hg]; exact Nat.ne_of_gt (blk_lt (g := gb440) (o := .cells #[.bool a0_0, .int .i64 a0_1, .slice A0_2 l0_2.length c0_2] 112 (0, 0)) (by (with_reducible repeat (first | refine blk_drewN ?_ _ | refine blk_drew ?_ | refine blk_alloc ?_ _)); exact BK440.out)) : gb441 ≠ gb440)); clear BK440; clear HB; have BK440 := n0_; have HB := n1_; have BK441 := n2_; have GW441 := n3_; have GE441 := n4_; have NB440_441 := n5_; have NB441_440 := n6_; clear n0_ n1_ n2_ n3_ n4_ n5_ n6_; clear hb hbox hg; have hnb14 := NB440_441.out; have hnc14 := NB441_440.out; have hcz15_0 : w13.cell? ⟨gb440, 0, none⟩ = some (.bool a0_0) := (blk_cell BK440.out 0).trans rfl; have hcz15_1 : w13.cell? ⟨gb440, 1, none⟩ = some (.int .i64 a0_1) := (blk_cell BK440.out 1).trans rfl; have hcz15_2 : w13.cell? ⟨gb440, 2, none⟩ = some (.slice A0_2 l0_2.length c0_2) := (blk_cell BK440.out 2).trans rfl; have hfz15_0 := blk_frozen BK440.out 0; have hfz15_1 := blk_frozen BK440.out 1; have hfz15_2 := blk_frozen BK440.out 2; have hcz16_0 : w13.cell? ⟨gb441, 0, none⟩ = some (.bool a1_0) := (blk_cell BK441.out 0).trans rfl; have hcz16_1 : w13.cell? ⟨gb441, 1, none⟩ = some (.int .i64 a1_1) := (blk_cell BK441.out 1).trans rfl; have hcz16_2 : w13.cell? ⟨gb441, 2, none⟩ = some (.slice A1_2 l1_2.length c1_2) := (blk_cell BK441.out 2).trans rfl; have hfz16_0 := blk_frozen BK441.out 0; have hfz16_1 := blk_frozen BK441.out 1; have hfz16_2 := blk_frozen BK441.out 2) | ((with_reducible refine gate_callee (f := 117) rfl ?_); refine goesL_ (some 19) rfl rfl Try.func117 (by kernel_rfl) rfl #[.slice A0_2 l0_2.length c0_2, .slice A1_2 l1_2.length c1_2] rfl (by (try simp only [List.map_toArray, List.map_cons, List.map_nil]); first | done | rfl | (simp only [List.length_drop, List.length_take]; rfl)) ?_; (with_reducible refine (laws_eqLeafS.calls k _ _ l0_2 _ _ l1_2 true _ ?side1 ?side2 ?side3 ?side4 A10.out).mono ?_); (case side1 => repeat (first | exact (Kd.C_below HR0_2.out HB.out) | (with_reducible refine Kd.C_alloc ?_ _) | (with_reducible refine Kd.C_drewN ?_ _) | (with_reducible refine Kd.C_drew ?_))); (case side2 => exact HC0_2.out); (case side3 => repeat (first | exact (Kd.C_below HR1_2.out HB.out) | (with_reducible refine Kd.C_alloc ?_ _) | (with_reducible refine Kd.C_drewN ?_ _) | (with_reducible refine Kd.C_drew ?_))); (case side4 => exact HC1_2.out); rintro e w17 ⟨rfl, hb⟩; refine ⟨_, rfl, ?_⟩; have n0_ := Aside0.mk (blk_below (g := gb440) (o := .cells #[.bool a0_0, .int .i64 a0_1, .slice A0_2 l0_2.length c0_2] 112 (0, 0)) (by (with_reducible repeat (first | refine blk_drewN ?_ _ | refine blk_drew ?_ | refine blk_alloc ?_ _)); exact BK440.out) hb); have n1_ := Aside0.mk (blk_below (g := gb441) (o := .cells #[.bool a1_0, .int .i64 a1_1, .slice A1_2 l1_2.length c1_2] 112 (0, 0)) (by (with_reducible repeat (first | refine blk_drewN ?_ _ | refine blk_drew ?_ | refine blk_alloc ?_ _)); exact BK441.out) hb); have n2_ := Aside0.mk (below_step (by repeat (first | (with_reducible first | exact HB.out | apply below_alloc | apply pw_below_drewN | apply below_drew1 | refine below_set ?_ GE440.out | refine below_set ?_ GE441.out) | exact HB.out)) hb); clear BK440; clear BK441; clear HB; have BK440 := n0_; have BK441 := n1_; have HB := n2_; clear n0_ n1_ n2_; (try clear hb); (try clear hb2); (try clear hk); (try clear hi)))
        go_ret
        exact ⟨by first | rfl | (simp [errW_none, errW_some] <;> rfl) | (simp [*, errW_none, errW_some] <;> rfl), by repeat (first | (with_reducible first | exact HB.out | apply below_alloc | apply pw_below_drewN | apply below_drew1 | refine below_set ?_ GE440.out | refine below_set ?_ GE441.out) | exact HB.out)⟩
      · replace c11 := Bool.eq_false_iff.mpr c11
        subst c11
        have H1 : (some false) = some r := by rw [if_neg (show ¬ (false = true) by decide)] at H; exact H
        clear H
        have H := H1
        clear H1
        obtain rfl := Option.some.inj H
        go_enter Try.func103, Try.ntmps103
        go_wp2_with (first | ((with_reducible refine gate_dst (N := 2) rfl ?_); refine box_event ?hg (N := 2) ?hd (cs := #[.bool a0_0, .int .i64 a0_1, .slice A0_2 l0_2.length c0_2]) (t := 112) ?hr ?_; (case hd => rfl); (case hg => rfl); (case hr => first | (go_simp; done) | (go_simp; rfl)); intro gb440 hg w18 hbox hb; have n0_ := Aside0.mk (below_step (by repeat (first | (with_reducible first | exact HB.out | apply below_alloc | apply pw_below_drewN | apply below_drew1) | exact HB.out)) hb); have n1_ := Aside0.mk (hbox); have n2_ := Aside0.mk ((by rw [hg]; exact (below_size (by repeat (first | (with_reducible first | exact HB.out | apply below_alloc | apply pw_below_drewN | apply below_drew1) | exact HB.out))) : w.heap.size ≤ gb440)); have n3_ := Aside0.mk ((by rw [hg]; exact (below_size (by repeat (first | (with_reducible first | exact HB.out | apply below_alloc | apply pw_below_drewN | apply below_drew1) | exact HB.out))) : w.heap.size ≤ gb440)); clear HB; have HB := n0_; have BK440 := n1_; have GW440 := n2_; have GE440 := n3_; clear n0_ n1_ n2_ n3_; clear hb hbox hg) | ((with_reducible refine gate_dst (N := 3) rfl ?_); refine box_event ?hg (N := 3) ?hd (cs := #[.bool a1_0, .int .i64 a1_1, .slice A1_2 l1_2.length c1_2]) (t := 112) ?hr ?_; (case hd => rfl); (case hg => rfl); (case hr => first | (go_simp; done) | (go_simp; rfl)); intro gb441 hg w19 hbox hb; have n0_ := Aside0.mk (blk_below (g := gb440) (o := .cells #[.bool a0_0, .int .i64 a0_1, .slice A0_2 l0_2.length c0_2] 112 (0, 0)) (by (with_reducible repeat (first | refine blk_drewN ?_ _ | refine blk_drew ?_ | refine blk_alloc ?_ _)); exact BK440.out) hb); have n1_ := Aside0.mk (below_step (by repeat (first | (with_reducible first | exact HB.out | apply below_alloc | apply pw_below_drewN | apply below_drew1 | refine below_set ?_ GE440.out) | exact HB.out)) hb); have n2_ := Aside0.mk (hbox); have n3_ := Aside0.mk ((by rw [hg]; exact (below_size (by repeat (first | (with_reducible first | exact HB.out | apply below_alloc | apply pw_below_drewN | apply below_drew1 | refine below_set ?_ GE440.out) | exact HB.out))) : w.heap.size ≤ gb441)); have n4_ := Aside0.mk ((by rw [hg]; exact (below_size (by repeat (first | (with_reducible first | exact HB.out | apply below_alloc | apply pw_below_drewN | apply below_drew1 | refine below_set ?_ GE440.out) | exact HB.out))) : w.heap.size ≤ gb441)); have n5_ := Aside0.mk ((by rw [hg]; exact Nat.ne_of_lt (blk_lt (g := gb440) (o := .cells #[.bool a0_0, .int .i64 a0_1, .slice A0_2 l0_2.length c0_2] 112 (0, 0)) (by (with_reducible repeat (first | refine blk_drewN ?_ _ | refine blk_drew ?_ | refine blk_alloc ?_ _)); exact BK440.out)) : gb440 ≠ gb441)); have n6_ := Aside0.mk ((by rw [hg]; exact Nat.ne_of_gt (blk_lt (g := gb440) (o := .cells #[.bool a0_0, .int .i64 a0_1, .slice A0_2 l0_2.length c0_2] 112 (0, 0)) (by (with_reducible repeat (first | refine blk_drewN ?_ _ | refine blk_drew ?_ | refine blk_alloc ?_ _)); exact BK440.out)) : gb441 ≠ gb440)); clear BK440; clear HB; have BK440 := n0_; have HB := n1_; have BK441 := n2_; have GW441 := n3_; have GE441 := n4_; have NB440_441 := n5_; have NB441_440 := n6_; clear n0_ n1_ n2_ n3_ n4_ n5_ n6_; clear hb hbox hg; have hnb20 := NB440_441.out; have hnc20 := NB441_440.out; have hcz21_0 : w19.cell? ⟨gb440, 0, none⟩ = some (.bool a0_0) := (blk_cell BK440.out 0).trans rfl; have hcz21_1 : w19.cell? ⟨gb440, 1, none⟩ = some (.int .i64 a0_1) := (blk_cell BK440.out 1).trans rfl; have hcz21_2 : w19.cell? ⟨gb440, 2, none⟩ = some (.slice A0_2 l0_2.length c0_2) := (blk_cell BK440.out 2).trans rfl; have hfz21_0 := blk_frozen BK440.out 0; have hfz21_1 := blk_frozen BK440.out 1; have hfz21_2 := blk_frozen BK440.out 2; have hcz22_0 : w19.cell? ⟨gb441, 0, none⟩ = some (.bool a1_0) := (blk_cell BK441.out 0).trans rfl; have hcz22_1 : w19.cell? ⟨gb441, 1, none⟩ = some (.int .i64 a1_1) := (blk_cell BK441.out 1).trans rfl; have hcz22_2 : w19.cell? ⟨gb441, 2, none⟩ = some (.slice A1_2 l1_2.length c1_2) := (blk_cell BK441.out 2).trans rfl; have hfz22_0 := blk_frozen BK441.out 0; have hfz22_1 := blk_frozen BK441.out 1; have hfz22_2 := blk_frozen BK441.out 2) | ((with_reducible refine gate_callee (f := 117) rfl ?_); refine goesL_ (some 19) rfl rfl Try.func117 (by kernel_rfl) rfl #[.slice A0_2 l0_2.length c0_2, .slice A1_2 l1_2.length c1_2] rfl (by (try simp only [List.map_toArray, List.map_cons, List.map_nil]); first | done | rfl | (simp only [List.length_drop, List.length_take]; rfl)) ?_; (with_reducible refine (laws_eqLeafS.calls k _ _ l0_2 _ _ l1_2 false _ ?side1 ?side2 ?side3 ?side4 A10.out).mono ?_); (case side1 => repeat (first | exact (Kd.C_below HR0_2.out HB.out) | (with_reducible refine Kd.C_alloc ?_ _) | (with_reducible refine Kd.C_drewN ?_ _) | (with_reducible refine Kd.C_drew ?_))); (case side2 => exact HC0_2.out); (case side3 => repeat (first | exact (Kd.C_below HR1_2.out HB.out) | (with_reducible refine Kd.C_alloc ?_ _) | (with_reducible refine Kd.C_drewN ?_ _) | (with_reducible refine Kd.C_drew ?_))); (case side4 => exact HC1_2.out); rintro e w23 ⟨rfl, hb⟩; refine ⟨_, rfl, ?_⟩; have n0_ := Aside0.mk (blk_below (g := gb440) (o := .cells #[.bool a0_0, .int .i64 a0_1, .slice A0_2 l0_2.length c0_2] 112 (0, 0)) (by (with_reducible repeat (first | refine blk_drewN ?_ _ | refine blk_drew ?_ | refine blk_alloc ?_ _)); exact BK440.out) hb); have n1_ := Aside0.mk (blk_below (g := gb441) (o := .cells #[.bool a1_0, .int .i64 a1_1, .slice A1_2 l1_2.length c1_2] 112 (0, 0)) (by (with_reducible repeat (first | refine blk_drewN ?_ _ | refine blk_drew ?_ | refine blk_alloc ?_ _)); exact BK441.out) hb); have n2_ := Aside0.mk (below_step (by repeat (first | (with_reducible first | exact HB.out | apply below_alloc | apply pw_below_drewN | apply below_drew1 | refine below_set ?_ GE440.out | refine below_set ?_ GE441.out) | exact HB.out)) hb); clear BK440; clear BK441; clear HB; have BK440 := n0_; have BK441 := n1_; have HB := n2_; clear n0_ n1_ n2_; (try clear hb); (try clear hb2); (try clear hk); (try clear hi)))
        go_ret
        exact ⟨by first | rfl | (simp [errW_none, errW_some] <;> rfl) | (simp [*, errW_none, errW_some] <;> rfl), by repeat (first | (with_reducible first | exact HB.out | apply below_alloc | apply pw_below_drewN | apply below_drew1 | refine below_set ?_ GE440.out | refine below_set ?_ GE441.out) | exact HB.out)⟩
    · rw [if_neg c9] at H
      have c9b0 : (a0_1 == a1_1) = false := beq_eq_false_iff_ne.mpr c9
      have c9b1 : (a0_1 != a1_1) = true := bne_iff_ne.mpr c9
      obtain rfl := Option.some.inj H
      go_enter Try.func103, Try.ntmps103
      go_wp2_with (first | ((with_reducible refine gate_dst (N := 2) rfl ?_); refine box_event ?hg (N := 2) ?hd (cs := #[.bool a0_0, .int .i64 a0_1, .slice A0_2 l0_2.length c0_2]) (t := 112) ?hr ?_; (case hd => rfl); (case hg => rfl); (case hr => first | (go_simp; done) | (go_simp; rfl)); intro gb440 hg w24 hbox hb; have n0_ := Aside0.mk (below_step (by repeat (first | (with_reducible first | exact HB.out | apply below_alloc | apply pw_below_drewN | apply below_drew1) | exact HB.out)) hb); have n1_ := Aside0.mk (hbox); have n2_ := Aside0.mk ((by rw [hg]; exact (below_size (by repeat (first | (with_reducible first | exact HB.out | apply below_alloc | apply pw_below_drewN | apply below_drew1) | exact HB.out))) : w.heap.size ≤ gb440)); have n3_ := Aside0.mk ((by rw [hg]; exact (below_size (by repeat (first | (with_reducible first | exact HB.out | apply below_alloc | apply pw_below_drewN | apply below_drew1) | exact HB.out))) : w.heap.size ≤ gb440)); clear HB; have HB := n0_; have BK440 := n1_; have GW440 := n2_; have GE440 := n3_; clear n0_ n1_ n2_ n3_; clear hb hbox hg) | ((with_reducible refine gate_dst (N := 3) rfl ?_); refine box_event ?hg (N := 3) ?hd (cs := #[.bool a1_0, .int .i64 a1_1, .slice A1_2 l1_2.length c1_2]) (t := 112) ?hr ?_; (case hd => rfl); (case hg => rfl); (case hr => first | (go_simp; done) | (go_simp; rfl)); intro gb441 hg w25 hbox hb; have n0_ := Aside0.mk (blk_below (g := gb440) (o := .cells #[.bool a0_0, .int .i64 a0_1, .slice A0_2 l0_2.length c0_2] 112 (0, 0)) (by (with_reducible repeat (first | refine blk_drewN ?_ _ | refine blk_drew ?_ | refine blk_alloc ?_ _)); exact BK440.out) hb); have n1_ := Aside0.mk (below_step (by repeat (first | (with_reducible first | exact HB.out | apply below_alloc | apply pw_below_drewN | apply below_drew1 | refine below_set ?_ GE440.out) | exact HB.out)) hb); have n2_ := Aside0.mk (hbox); have n3_ := Aside0.mk ((by rw [hg]; exact (below_size (by repeat (first | (with_reducible first | exact HB.out | apply below_alloc | apply pw_below_drewN | apply below_drew1 | refine below_set ?_ GE440.out) | exact HB.out))) : w.heap.size ≤ gb441)); have n4_ := Aside0.mk ((by rw [hg]; exact (below_size (by repeat (first | (with_reducible first | exact HB.out | apply below_alloc | apply pw_below_drewN | apply below_drew1 | refine below_set ?_ GE440.out) | exact HB.out))) : w.heap.size ≤ gb441)); have n5_ := Aside0.mk ((by rw [hg]; exact Nat.ne_of_lt (blk_lt (g := gb440) (o := .cells #[.bool a0_0, .int .i64 a0_1, .slice A0_2 l0_2.length c0_2] 112 (0, 0)) (by (with_reducible repeat (first | refine blk_drewN ?_ _ | refine blk_drew ?_ | refine blk_alloc ?_ _)); exact BK440.out)) : gb440 ≠ gb441)); have n6_ := Aside0.mk ((by rw [hg]; exact Nat.ne_of_gt (blk_lt (g := gb440) (o := .cells #[.bool a0_0, .int .i64 a0_1, .slice A0_2 l0_2.length c0_2] 112 (0, 0)) (by (with_reducible repeat (first | refine blk_drewN ?_ _ | refine blk_drew ?_ | refine blk_alloc ?_ _)); exact BK440.out)) : gb441 ≠ gb440)); clear BK440; clear HB; have BK440 := n0_; have HB := n1_; have BK441 := n2_; have GW441 := n3_; have GE441 := n4_; have NB440_441 := n5_; have NB441_440 := n6_; clear n0_ n1_ n2_ n3_ n4_ n5_ n6_; clear hb hbox hg; have hnb26 := NB440_441.out; have hnc26 := NB441_440.out; have hcz27_0 : w25.cell? ⟨gb440, 0, none⟩ = some (.bool a0_0) := (blk_cell BK440.out 0).trans rfl; have hcz27_1 : w25.cell? ⟨gb440, 1, none⟩ = some (.int .i64 a0_1) := (blk_cell BK440.out 1).trans rfl; have hcz27_2 : w25.cell? ⟨gb440, 2, none⟩ = some (.slice A0_2 l0_2.length c0_2) := (blk_cell BK440.out 2).trans rfl; have hfz27_0 := blk_frozen BK440.out 0; have hfz27_1 := blk_frozen BK440.out 1; have hfz27_2 := blk_frozen BK440.out 2; have hcz28_0 : w25.cell? ⟨gb441, 0, none⟩ = some (.bool a1_0) := (blk_cell BK441.out 0).trans rfl; have hcz28_1 : w25.cell? ⟨gb441, 1, none⟩ = some (.int .i64 a1_1) := (blk_cell BK441.out 1).trans rfl; have hcz28_2 : w25.cell? ⟨gb441, 2, none⟩ = some (.slice A1_2 l1_2.length c1_2) := (blk_cell BK441.out 2).trans rfl; have hfz28_0 := blk_frozen BK441.out 0; have hfz28_1 := blk_frozen BK441.out 1; have hfz28_2 := blk_frozen BK441.out 2))
      go_ret
      exact ⟨by first | rfl | (simp [errW_none, errW_some] <;> rfl) | (simp [*, errW_none, errW_some] <;> rfl), by repeat (first | (with_reducible first | exact HB.out | apply below_alloc | apply pw_below_drewN | apply below_drew1 | refine below_set ?_ GE440.out | refine below_set ?_ GE441.out) | exact HB.out)⟩

end Go.Proofs.Ytijbejiajaiciaa.PC

/- Functions of the translation as plain Lean functions, and for each that its call comes to just what its Lean function answers; its conditions stand in each theorem. Written by a program of this session. -/
namespace Go.Proofs.Ytijbejiajaiciaa.PC
open Go.RowKit Go.Proofs.YtijbejiajaiciaaW.PrintWords Go.Proofs.YtijbejiajaiciaaW.PrintLast Go.Proofs.YtijbejiajaiciaaW.PrintMore
attribute [local go_sem] max2_int min2_int max_two min_two max_three min_three max_four min_four   -- for this text's walks alone
set_option linter.unusedVariables false
set_option linter.unusedSimpArgs false

/-! ### laws_eqBlockS: function 72 -/
def laws_eqBlockS.l0 : Nat → List (S112) → List (S112) → Int → Option (Bool)
  | 0, _, _, _ => none
  | k + 1, x0, x1, x5 => if x5 < (x0.length : Int) then (if 0 ≤ x5 then (if x5 < (x1.length : Int) then ((laws_eqBlock.f k ((rd_T112 x0 x5).f0) ((rd_T112 x0 x5).f1) ((rd_T112 x0 x5).f2) ((rd_T112 x1 x5).f0) ((rd_T112 x1 x5).f1) ((rd_T112 x1 x5).f2)).bind fun t445 => (if t445 = true then (laws_eqBlockS.l0 k x0 x1 (wrap64 (x5 + 1))) else (some false))) else (none)) else (none)) else (some true)
def laws_eqBlockS.f (k : Nat) (l0 : List (S112)) (l1 : List (S112)) : Option (Bool) := if (l0.length : Int) = (l1.length : Int) then (laws_eqBlockS.l0 k l0 l1 0) else (some false)
theorem laws_eqBlockS.mono_l : ∀ k, (∀ y0 y1 y2, LeO (laws_eqBlockS.l0 k y0 y1 y2) (laws_eqBlockS.l0 (k + 1) y0 y1 y2))
  | 0 => fun _ _ _ r h => by simp [laws_eqBlockS.l0] at h
  | k + 1 => by
    have ih0 := laws_eqBlockS.mono_l k
    · intro y0 y1 y2
      unfold laws_eqBlockS.l0
      repeat' first
      | (with_reducible exact ih0 _ _ _)
      | (with_reducible exact laws_eqBlock.mono _ _ _ _ _ _ _)
      | (with_reducible exact LeO.refl _)
      | (with_reducible exact LeO.none _)
      | (with_reducible refine LeO.ite ?_ ?_)
      | (with_reducible refine LeO.bind ?_ (fun _ => ?_))
      | exact ih0 _ _ _
      | exact laws_eqBlock.mono _ _ _ _ _ _ _
      | exact LeO.none _
      | refine LeO.ite ?_ ?_
      | refine LeO.bind ?_ (fun _ => ?_)
theorem laws_eqBlockS.mono : ∀ a0 a1 k, LeO (laws_eqBlockS.f k a0 a1) (laws_eqBlockS.f (k + 1) a0 a1) := by
  intro a0 a1 k
  have ih0 := laws_eqBlockS.mono_l k
  unfold laws_eqBlockS.f
  repeat' first
      | (with_reducible exact ih0 _ _ _)
      | (with_reducible exact laws_eqBlock.mono _ _ _ _ _ _ _)
      | (with_reducible exact LeO.refl _)
      | (with_reducible exact LeO.none _)
      | (with_reducible refine LeO.ite ?_ ?_)
      | (with_reducible refine LeO.bind ?_ (fun _ => ?_))
      | exact ih0 _ _ _
      | exact laws_eqBlock.mono _ _ _ _ _ _ _
      | exact LeO.none _
      | refine LeO.ite ?_ ?_
      | refine LeO.bind ?_ (fun _ => ?_)
def laws_eqBlockS.T6 : Bool × List (List Nat × List Nat) := (true, [([], []), ([], []), ([0, 1], [0, 1]), ([2], [2]), ([], []), ([], []), ([4, 5], [4, 5]), ([6], [6]), ([3, 7], [3, 7]), ([8], [8])])
def laws_eqBlockS.B6 : List Nat := [0, 0, 3, 7, 0, 0, 48, 112, 255, 511]
theorem laws_eqBlockS.tab6 : rtab .any (opsOf Try.f72 6) = laws_eqBlockS.T6 := by kernel_rfl
theorem laws_eqBlockS.bits6 : waitsOk laws_eqBlockS.T6.2 laws_eqBlockS.B6 = true := by kernel_rfl
set_option maxHeartbeats 8000000 in
set_option maxRecDepth 100000 in
theorem laws_eqBlockS.calls (k : Nat) (A0 : Option Addr) (c0 : Nat) (l0 : List (S112)) (A1 : Option Addr) (c1 : Nat) (l1 : List (S112)) (r : Bool) (w : World) (hr0 : Kd.C k112 w A0 l0.length l0) (hc0 : l0.length ≤ c0) (hr1 : Kd.C k112 w A1 l1.length l1) (hc1 : l1.length ≤ c1) (h : laws_eqBlockS.f k l0 l1 = some r) :
    Calls Try.prog 72 #[.slice A0 l0.length c0, .slice A1 l1.length c1] w fun e w' => e = .returned (.bool r) ∧ Below w.heap.size w w' := by
  have hu112 := Try.underlying112
  have HR0 := Aside0.mk hr0
  have HC0 := Aside0.mk hc0
  clear hr0 hc0
  have HR1 := Aside0.mk hr1
  have HC1 := Aside0.mk hc1
  clear hr1 hc1
  have HB := Aside0.mk (Below.refl w.heap.size w)
  have H : (if (l0.length : Int) = (l1.length : Int) then (laws_eqBlockS.l0 k l0 l1 0) else (some false)) = some r := h
  clear h
  by_cases c3 : (l0.length : Int) = (l1.length : Int)
  · rw [if_pos c3] at H
    have c3b0 : ((l0.length : Int) == (l1.length : Int)) = true := beq_iff_eq.mpr c3
    have c3b1 : ((l0.length : Int) != (l1.length : Int)) = false := bne_eq_false_iff_eq.mpr c3
    have c3b2 : (l0.length == l1.length) = true := by first | simpa using c3 | (simp at c3 ⊢; omega)
    clear c3
    have H' := Aside0.mk H
    clear H
    go_enter Try.func72, Try.ntmps72
    go_wp2
    go_loopg [5] k (fun kq v5 w' => ∃ (x5_1 : Int), v5 = .int .i64 x5_1 ∧ Aside0 (laws_eqBlockS.l0 kq l0 l1 x5_1 = some r) ∧ Aside0 (kq ≤ k) ∧ Aside0 (Below w.heap.size w w'))
    case atStart => exact ⟨(0), (by first | rfl | (simp; done) | (simp [*]; done)), H', ⟨Nat.le_refl _⟩, ⟨by repeat (first | (with_reducible first | exact HB.out | apply below_alloc | apply pw_below_drewN | apply below_drew1) | exact HB.out)⟩⟩
    case round =>
      clear H'
      try clear c1
      try clear p2
      try clear c3
      try clear c3b0
      try clear c3b1
      try clear c3b2
      obtain ⟨x5_1, rfl, HA, HK1, HB⟩ := hrel
      cases gk with
      | zero => exact absurd HA.out (by simp [laws_eqBlockS.l0])
      | succ k1 =>
        have H := HA.out
        clear HA
        simp only [laws_eqBlockS.l0] at H
        by_cases c4 : x5_1 < (l0.length : Int)
        · rw [if_pos c4] at H
          have c4b0 : decide (x5_1 < (l0.length : Int)) = true := decide_eq_true c4
          clear c4
          by_cases c5 : 0 ≤ x5_1
          · rw [if_pos c5] at H
            have c5b0 : decide (0 ≤ x5_1) = true := decide_eq_true c5
            clear c5
            by_cases c6 : x5_1 < (l1.length : Int)
            · rw [if_pos c6] at H
              have c6b0 : decide (x5_1 < (l1.length : Int)) = true := decide_eq_true c6
              clear c6
              replace H := Option.bind_eq_some_iff.mp H
              obtain ⟨t445, A70, H⟩ := H
              replace H : (if t445 = true then (laws_eqBlockS.l0 k1 l0 l1 (wrap64 (x5_1 + 1))) else (some false)) = some r := H
              have A7 := Aside0.mk A70
              clear A70
              by_cases c8 : t445 = true
              · subst c8
                have H1 : (laws_eqBlockS.l0 k1 l0 l1 (wrap64 (x5_1 + 1))) = some r := by rw [if_pos rfl] at H; exact H
                clear H
                have H := H1
                clear H1
                have H' := Aside0.mk H
                clear H
                try go_wp2
                have n0_ := Aside0.mk (below_drew1 HB.out)
                clear HB
                have HB := n0_
                clear n0_
                have p443 : 0 ≤ (x5_1 : Int) := of_decide_eq_true (by first | (with_reducible assumption) | assumption)
                have q443 : x5_1 < (l0.length : Int) := of_decide_eq_true (by first | (with_reducible assumption) | assumption)
                obtain ⟨ad443, A443_2, c443_2, e443, hx443_0, hx443_1, hx443_2, hl443_2, hi443_2⟩ := at_T112 HR0.out x5_1 p443 q443
                have hw443_2 := hx443_2
                have hw443_1 := hx443_1
                have hw443_0 := hx443_0
                cases e443
                replace hx443_0 := (HB.out.cell (World.block_lt_of_cell? w _ hx443_0)).trans hx443_0
                replace hx443_1 := (HB.out.cell (World.block_lt_of_cell? w _ hx443_1)).trans hx443_1
                replace hx443_2 := (HB.out.cell (World.block_lt_of_cell? w _ hx443_2)).trans hx443_2
                have HR443_2 := Aside0.mk hi443_2
                have HC443_2 := Aside0.mk hl443_2
                clear hi443_2 hl443_2
                replace p443 := eq_true p443
                replace q443 := eq_true q443
                have p444 : 0 ≤ (x5_1 : Int) := of_decide_eq_true (by first | (with_reducible assumption) | assumption)
                have q444 : x5_1 < (l1.length : Int) := of_decide_eq_true (by first | (with_reducible assumption) | assumption)
                obtain ⟨ad444, A444_2, c444_2, e444, hx444_0, hx444_1, hx444_2, hl444_2, hi444_2⟩ := at_T112 HR1.out x5_1 p444 q444
                have hw444_2 := hx444_2
                have hw444_1 := hx444_1
                have hw444_0 := hx444_0
                cases e444
                replace hx444_0 := (HB.out.cell (World.block_lt_of_cell? w _ hx444_0)).trans hx444_0
                replace hx444_1 := (HB.out.cell (World.block_lt_of_cell? w _ hx444_1)).trans hx444_1
                replace hx444_2 := (HB.out.cell (World.block_lt_of_cell? w _ hx444_2)).trans hx444_2
                have HR444_2 := Aside0.mk hi444_2
                have HC444_2 := Aside0.mk hl444_2
                clear hi444_2 hl444_2
                replace p444 := eq_true p444
                replace q444 := eq_true q444
                refine start_ (n := 10) (S := fun w' => w'.cell? (ad443.add ((x5_1).toNat * 3)) = some (.bool ((rd_T112 l0 x5_1).f0)) ∧ w'.cell? ⟨(ad443.add ((x5_1).toNat * 3)).block, (ad443.add ((x5_1).toNat * 3)).off + 1, none⟩ = some (.int .i64 ((rd_T112 l0 x5_1).f1)) ∧ w'.cell? ⟨(ad443.add ((x5_1).toNat * 3)).block, (ad443.add ((x5_1).toNat * 3)).off + 2, none⟩ = some (.slice A443_2 ((rd_T112 l0 x5_1).f2).length c443_2) ∧ w'.cell? (ad444.add ((x5_1).toNat * 3)) = some (.bool ((rd_T112 l1 x5_1).f0)) ∧ w'.cell? ⟨(ad444.add ((x5_1).toNat * 3)).block, (ad444.add ((x5_1).toNat * 3)).off + 1, none⟩ = some (.int .i64 ((rd_T112 l1 x5_1).f1)) ∧ w'.cell? ⟨(ad444.add ((x5_1).toNat * 3)).block, (ad444.add ((x5_1).toNat * 3)).off + 2, none⟩ = some (.slice A444_2 ((rd_T112 l1 x5_1).f2).length c444_2)) (ds := []) #[false, false, false, false, false, false, false, false, false, false] (by kernel_rfl) rfl rfl ⟨((HB.out.cell (World.block_lt_of_cell? w _ hw443_0)).trans hw443_0), ((HB.out.cell (World.block_lt_of_cell? w _ hw443_1)).trans hw443_1), ((HB.out.cell (World.block_lt_of_cell? w _ hw443_2)).trans hw443_2), ((HB.out.cell (World.block_lt_of_cell? w _ hw444_0)).trans hw444_0), ((HB.out.cell (World.block_lt_of_cell? w _ hw444_1)).trans hw444_1), ((HB.out.cell (World.block_lt_of_cell? w _ hw444_2)).trans hw444_2)⟩ (fun hHeld => ?_); refine with_tabW laws_eqBlockS.tab6 laws_eqBlockS.bits6 (fun HT_ HW_ => ?_)
                generalize wr.drew = w9 at HB HR443_2 HR444_2 hx443_0 hx443_1 hx443_2 hx444_0 hx444_1 hx444_2 hHeld ⊢
                refine pure_ (i := 0) (N := some 17) (v := ?_) (a' := ?_) #[true, false, false, false, false, false, false, false, false, false] rfl rfl (any_of HT_.out (by kernel_rfl)) (fun _ _ _ h => h) (Or.inl ⟨by rfl, ?_⟩) ?_ ?_
                rotate_left
                · intro w'
                  go_simp
                  with_reducible rfl
                rotate_left
                · simp only [Act.put, List.setIfInBounds_toArray, List.set_cons_zero, List.set_cons_succ, i64_w, i32_w]
                  rfl
                refine pure_ (i := 1) (N := some 18) (v := ?_) (a' := ?_) #[true, true, false, false, false, false, false, false, false, false] rfl rfl (any_of HT_.out (by kernel_rfl)) (fun _ _ _ h => h) (Or.inl ⟨by rfl, ?_⟩) ?_ ?_
                rotate_left
                · intro w'
                  go_simp
                  with_reducible rfl
                rotate_left
                · simp only [Act.put, List.setIfInBounds_toArray, List.set_cons_zero, List.set_cons_succ, i64_w, i32_w]
                  rfl
                refine pure_ (i := 2) (N := some 19) (v := ?_) (a' := ?_) #[true, true, true, false, false, false, false, false, false, false] rfl rfl (any_of HT_.out (by kernel_rfl)) (fun _ _ _ h => h) (Or.inl ⟨by rfl, ?_⟩) ?_ ?_
                rotate_left
                · intro w'
                  go_simp
                  with_reducible rfl
                rotate_left
                · simp only [Act.put, List.setIfInBounds_toArray, List.set_cons_zero, List.set_cons_succ, i64_w, i32_w]
                  rfl
                refine pure_ (i := 4) (N := some 21) (v := ?_) (a' := ?_) #[true, true, true, false, true, false, false, false, false, false] rfl rfl (any_of HT_.out (by kernel_rfl)) (fun _ _ _ h => h) (Or.inl ⟨by rfl, ?_⟩) ?_ ?_
                rotate_left
                · intro w'
                  go_simp
                  with_reducible rfl
                rotate_left
                · simp only [Act.put, List.setIfInBounds_toArray, List.set_cons_zero, List.set_cons_succ, i64_w, i32_w]
                  rfl
                refine pure_ (i := 5) (N := some 22) (v := ?_) (a' := ?_) #[true, true, true, false, true, true, false, false, false, false] rfl rfl (any_of HT_.out (by kernel_rfl)) (fun _ _ _ h => h) (Or.inl ⟨by rfl, ?_⟩) ?_ ?_
                rotate_left
                · intro w'
                  go_simp
                  with_reducible rfl
                rotate_left
                · simp only [Act.put, List.setIfInBounds_toArray, List.set_cons_zero, List.set_cons_succ, i64_w, i32_w]
                  rfl
                refine pure_ (i := 6) (N := some 23) (v := ?_) (a' := ?_) #[true, true, true, false, true, true, true, false, false, false] rfl rfl (any_of HT_.out (by kernel_rfl)) (fun _ _ _ h => h) (Or.inl ⟨by rfl, ?_⟩) ?_ ?_
                rotate_left
                · intro w'
                  go_simp
                  with_reducible rfl
                rotate_left
                · simp only [Act.put, List.setIfInBounds_toArray, List.set_cons_zero, List.set_cons_succ, i64_w, i32_w]
                  rfl
                refine take_ (i := 3) (N := some 20) (v := ?_) (a' := ?_) #[true, true, true, true, true, true, true, false, false, false] rfl rfl (take_ofW HT_.out HW_.out (by kernel_rfl)) (fun _ _ _ h => h) (Or.inl ⟨by rfl, ?_⟩) hHeld ?_ ?_
                rotate_left
                · rintro w' ⟨s0, s1, s2, s3, s4, s5⟩
                  go_simp
                  with_reducible rfl
                rotate_left
                · simp only [Act.put, List.setIfInBounds_toArray, List.set_cons_zero, List.set_cons_succ, i64_w, i32_w]
                  rfl
                refine take_ (i := 7) (N := some 24) (v := ?_) (a' := ?_) #[true, true, true, true, true, true, true, true, false, false] rfl rfl (take_ofW HT_.out HW_.out (by kernel_rfl)) (fun _ _ _ h => h) (Or.inl ⟨by rfl, ?_⟩) hHeld ?_ ?_
                rotate_left
                · rintro w' ⟨s0, s1, s2, s3, s4, s5⟩
                  go_simp
                  with_reducible rfl
                rotate_left
                · simp only [Act.put, List.setIfInBounds_toArray, List.set_cons_zero, List.set_cons_succ, i64_w, i32_w]
                  rfl
                refine one_ (i := 8) (N := some 25) #[true, true, true, true, true, true, true, true, true, false] rfl rfl (one_of HT_.out (by kernel_rfl)) (by decide) (fun K hK => ?_)
                refine goes_ Try.func103 (by kernel_rfl) rfl #[.agg #[.bool ((rd_T112 l0 x5_1).f0), .int .i64 ((rd_T112 l0 x5_1).f1), .slice A443_2 ((rd_T112 l0 x5_1).f2).length c443_2], .agg #[.bool ((rd_T112 l1 x5_1).f0), .int .i64 ((rd_T112 l1 x5_1).f1), .slice A444_2 ((rd_T112 l1 x5_1).f2).length c444_2]] (by rfl) rfl rfl (by (try simp only [List.map_toArray, List.map_cons, List.map_nil]); first | done | rfl | (simp only [List.length_drop, List.length_take]; rfl)) ?_
                with_reducible refine (laws_eqBlock.calls k1 ((rd_T112 l0 x5_1).f0) ((rd_T112 l0 x5_1).f1) _ _ ((rd_T112 l0 x5_1).f2) ((rd_T112 l1 x5_1).f0) ((rd_T112 l1 x5_1).f1) _ _ ((rd_T112 l1 x5_1).f2) true _ ?side1 ?side2 ?side3 ?side4 A7.out).mono ?_
                (case side1 => repeat (first | exact (Kd.C_below HR443_2.out HB.out) | (with_reducible refine Kd.C_alloc ?_ _) | (with_reducible refine Kd.C_drewN ?_ _) | (with_reducible refine Kd.C_drew ?_)))
                (case side2 => exact HC443_2.out)
                (case side3 => repeat (first | exact (Kd.C_below HR444_2.out HB.out) | (with_reducible refine Kd.C_alloc ?_ _) | (with_reducible refine Kd.C_drewN ?_ _) | (with_reducible refine Kd.C_drew ?_)))
                (case side4 => exact HC444_2.out)
                rintro e w10 ⟨rfl, hb⟩
                refine ⟨_, rfl, ?_⟩
                have n0_ := Aside0.mk (below_step (by repeat (first | (with_reducible first | exact HB.out | apply below_alloc | apply pw_below_drewN | apply below_drew1) | exact HB.out)) hb)
                clear HB
                have HB := n0_
                clear n0_
                (try clear hb)
                (try clear hb2)
                (try clear hk)
                (try clear hi)
                refine hK.out _ _ ⟨((HB.out.cell (World.block_lt_of_cell? w _ hw443_0)).trans hw443_0), ((HB.out.cell (World.block_lt_of_cell? w _ hw443_1)).trans hw443_1), ((HB.out.cell (World.block_lt_of_cell? w _ hw443_2)).trans hw443_2), ((HB.out.cell (World.block_lt_of_cell? w _ hw444_0)).trans hw444_0), ((HB.out.cell (World.block_lt_of_cell? w _ hw444_1)).trans hw444_1), ((HB.out.cell (World.block_lt_of_cell? w _ hw444_2)).trans hw444_2)⟩ (fun hHeld => ?_)
                clear hK K
                refine norm_ (a' := ?_) ?_ ?_
                rotate_left
                · show Act.put _ (some 25) _ = _
                  simp only [Act.put, List.setIfInBounds_toArray, List.set_cons_zero, List.set_cons_succ, i64_w, i32_w]
                  rfl
                refine pure_ (i := 9) (N := some 26) (v := ?_) (a' := ?_) #[true, true, true, true, true, true, true, true, true, true] rfl rfl (any_of HT_.out (by kernel_rfl)) (fun _ _ _ h => h) (Or.inl ⟨by rfl, ?_⟩) ?_ ?_
                rotate_left
                · intro w'
                  go_simp
                  with_reducible rfl
                rotate_left
                · simp only [Act.put, List.setIfInBounds_toArray, List.set_cons_zero, List.set_cons_succ, i64_w, i32_w]
                  rfl
                refine done_ (done_of HT_.out (by kernel_rfl)) ?_
                try go_wp2
                go_roundg k1
                case measure => have := HK1.out; omega
                case rel => exact ⟨(wrap64 (x5_1 + 1)), (by first | rfl | (simp; done) | (simp [*]; done)), H', ⟨by have := HK1.out; omega⟩, ⟨by repeat (first | (with_reducible first | exact HB.out | apply below_alloc | apply pw_below_drewN | apply below_drew1) | exact HB.out)⟩⟩
              · replace c8 := Bool.eq_false_iff.mpr c8
                subst c8
                have H1 : (some false) = some r := by rw [if_neg (show ¬ (false = true) by decide)] at H; exact H
                clear H
                have H := H1
                clear H1
                obtain rfl := Option.some.inj H
                try go_wp2
                have n0_ := Aside0.mk (below_drew1 HB.out)
                clear HB
                have HB := n0_
                clear n0_
                have p443 : 0 ≤ (x5_1 : Int) := of_decide_eq_true (by first | (with_reducible assumption) | assumption)
                have q443 : x5_1 < (l0.length : Int) := of_decide_eq_true (by first | (with_reducible assumption) | assumption)
                obtain ⟨ad443, A443_2, c443_2, e443, hx443_0, hx443_1, hx443_2, hl443_2, hi443_2⟩ := at_T112 HR0.out x5_1 p443 q443
                have hw443_2 := hx443_2
                have hw443_1 := hx443_1
                have hw443_0 := hx443_0
                cases e443
                replace hx443_0 := (HB.out.cell (World.block_lt_of_cell? w _ hx443_0)).trans hx443_0
                replace hx443_1 := (HB.out.cell (World.block_lt_of_cell? w _ hx443_1)).trans hx443_1
                replace hx443_2 := (HB.out.cell (World.block_lt_of_cell? w _ hx443_2)).trans hx443_2
                have HR443_2 := Aside0.mk hi443_2
                have HC443_2 := Aside0.mk hl443_2
                clear hi443_2 hl443_2
                replace p443 := eq_true p443
                replace q443 := eq_true q443
                have p444 : 0 ≤ (x5_1 : Int) := of_decide_eq_true (by first | (with_reducible assumption) | assumption)
                have q444 : x5_1 < (l1.length : Int) := of_decide_eq_true (by first | (with_reducible assumption) | assumption)
                obtain ⟨ad444, A444_2, c444_2, e444, hx444_0, hx444_1, hx444_2, hl444_2, hi444_2⟩ := at_T112 HR1.out x5_1 p444 q444
                have hw444_2 := hx444_2
                have hw444_1 := hx444_1
                have hw444_0 := hx444_0
                cases e444
                replace hx444_0 := (HB.out.cell (World.block_lt_of_cell? w _ hx444_0)).trans hx444_0
                replace hx444_1 := (HB.out.cell (World.block_lt_of_cell? w _ hx444_1)).trans hx444_1
                replace hx444_2 := (HB.out.cell (World.block_lt_of_cell? w _ hx444_2)).trans hx444_2
                have HR444_2 := Aside0.mk hi444_2
                have HC444_2 := Aside0.mk hl444_2
                clear hi444_2 hl444_2
                replace p444 := eq_true p444
                replace q444 := eq_true q444
                refine start_ (n := 10) (S := fun w' => w'.cell? (ad443.add ((x5_1).toNat * 3)) = some (.bool ((rd_T112 l0 x5_1).f0)) ∧ w'.cell? ⟨(ad443.add ((x5_1).toNat * 3)).block, (ad443.add ((x5_1).toNat * 3)).off + 1, none⟩ = some (.int .i64 ((rd_T112 l0 x5_1).f1)) ∧ w'.cell? ⟨(ad443.add ((x5_1).toNat * 3)).block, (ad443.add ((x5_1).toNat * 3)).off + 2, none⟩ = some (.slice A443_2 ((rd_T112 l0 x5_1).f2).length c443_2) ∧ w'.cell? (ad444.add ((x5_1).toNat * 3)) = some (.bool ((rd_T112 l1 x5_1).f0)) ∧ w'.cell? ⟨(ad444.add ((x5_1).toNat * 3)).block, (ad444.add ((x5_1).toNat * 3)).off + 1, none⟩ = some (.int .i64 ((rd_T112 l1 x5_1).f1)) ∧ w'.cell? ⟨(ad444.add ((x5_1).toNat * 3)).block, (ad444.add ((x5_1).toNat * 3)).off + 2, none⟩ = some (.slice A444_2 ((rd_T112 l1 x5_1).f2).length c444_2)) (ds := []) #[false, false, false, false, false, false, false, false, false, false] (by kernel_rfl) rfl rfl ⟨((HB.out.cell (World.block_lt_of_cell? w _ hw443_0)).trans hw443_0), ((HB.out.cell (World.block_lt_of_cell? w _ hw443_1)).trans hw443_1), ((HB.out.cell (World.block_lt_of_cell? w _ hw443_2)).trans hw443_2), ((HB.out.cell (World.block_lt_of_cell? w _ hw444_0)).trans hw444_0), ((HB.out.cell (World.block_lt_of_cell? w _ hw444_1)).trans hw444_1), ((HB.out.cell (World.block_lt_of_cell? w _ hw444_2)).trans hw444_2)⟩ (fun hHeld => ?_); refine with_tabW laws_eqBlockS.tab6 laws_eqBlockS.bits6 (fun HT_ HW_ => ?_)
                generalize wr.drew = w11 at HB HR443_2 HR444_2 hx443_0 hx443_1 hx443_2 hx444_0 hx444_1 hx444_2 hHeld ⊢
                refine pure_ (i := 0) (N := some 17) (v := ?_) (a' := ?_) #[true, false, false, false, false, false, false, false, false, false] rfl rfl (any_of HT_.out (by kernel_rfl)) (fun _ _ _ h => h) (Or.inl ⟨by rfl, ?_⟩) ?_ ?_
                rotate_left
                · intro w'
                  go_simp
                  with_reducible rfl
                rotate_left
                · simp only [Act.put, List.setIfInBounds_toArray, List.set_cons_zero, List.set_cons_succ, i64_w, i32_w]
                  rfl
                refine pure_ (i := 1) (N := some 18) (v := ?_) (a' := ?_) #[true, true, false, false, false, false, false, false, false, false] rfl rfl (any_of HT_.out (by kernel_rfl)) (fun _ _ _ h => h) (Or.inl ⟨by rfl, ?_⟩) ?_ ?_
                rotate_left
                · intro w'
                  go_simp
                  with_reducible rfl
                rotate_left
                · simp only [Act.put, List.setIfInBounds_toArray, List.set_cons_zero, List.set_cons_succ, i64_w, i32_w]
                  rfl
                refine pure_ (i := 2) (N := some 19) (v := ?_) (a' := ?_) #[true, true, true, false, false, false, false, false, false, false] rfl rfl (any_of HT_.out (by kernel_rfl)) (fun _ _ _ h => h) (Or.inl ⟨by rfl, ?_⟩) ?_ ?_
                rotate_left
                · intro w'
                  go_simp
                  with_reducible rfl
                rotate_left
                · simp only [Act.put, List.setIfInBounds_toArray, List.set_cons_zero, List.set_cons_succ, i64_w, i32_w]
                  rfl
                refine pure_ (i := 4) (N := some 21) (v := ?_) (a' := ?_) #[true, true, true, false, true, false, false, false, false, false] rfl rfl (any_of HT_.out (by kernel_rfl)) (fun _ _ _ h => h) (Or.inl ⟨by rfl, ?_⟩) ?_ ?_
                rotate_left
                · intro w'
                  go_simp
                  with_reducible rfl
                rotate_left
                · simp only [Act.put, List.setIfInBounds_toArray, List.set_cons_zero, List.set_cons_succ, i64_w, i32_w]
                  rfl
                refine pure_ (i := 5) (N := some 22) (v := ?_) (a' := ?_) #[true, true, true, false, true, true, false, false, false, false] rfl rfl (any_of HT_.out (by kernel_rfl)) (fun _ _ _ h => h) (Or.inl ⟨by rfl, ?_⟩) ?_ ?_
                rotate_left
                · intro w'
                  go_simp
                  with_reducible rfl
                rotate_left
                · simp only [Act.put, List.setIfInBounds_toArray, List.set_cons_zero, List.set_cons_succ, i64_w, i32_w]
                  rfl
                refine pure_ (i := 6) (N := some 23) (v := ?_) (a' := ?_) #[true, true, true, false, true, true, true, false, false, false] rfl rfl (any_of HT_.out (by kernel_rfl)) (fun _ _ _ h => h) (Or.inl ⟨by rfl, ?_⟩) ?_ ?_
                rotate_left
                · intro w'
                  go_simp
                  with_reducible rfl
                rotate_left
                · simp only [Act.put, List.setIfInBounds_toArray, List.set_cons_zero, List.set_cons_succ, i64_w, i32_w]
                  rfl
                refine take_ (i := 3) (N := some 20) (v := ?_) (a' := ?_) #[true, true, true, true, true, true, true, false, false, false] rfl rfl (take_ofW HT_.out HW_.out (by kernel_rfl)) (fun _ _ _ h => h) (Or.inl ⟨by rfl, ?_⟩) hHeld ?_ ?_
                rotate_left
                · rintro w' ⟨s0, s1, s2, s3, s4, s5⟩
                  go_simp
                  with_reducible rfl
                rotate_left
                · simp only [Act.put, List.setIfInBounds_toArray, List.set_cons_zero, List.set_cons_succ, i64_w, i32_w]
                  rfl
                refine take_ (i := 7) (N := some 24) (v := ?_) (a' := ?_) #[true, true, true, true, true, true, true, true, false, false] rfl rfl (take_ofW HT_.out HW_.out (by kernel_rfl)) (fun _ _ _ h => h) (Or.inl ⟨by rfl, ?_⟩) hHeld ?_ ?_
                rotate_left
                · rintro w' ⟨s0, s1, s2, s3, s4, s5⟩
                  go_simp
                  with_reducible rfl
                rotate_left
                · simp only [Act.put, List.setIfInBounds_toArray, List.set_cons_zero, List.set_cons_succ, i64_w, i32_w]
                  rfl
                refine one_ (i := 8) (N := some 25) #[true, true, true, true, true, true, true, true, true, false] rfl rfl (one_of HT_.out (by kernel_rfl)) (by decide) (fun K hK => ?_)
                refine goes_ Try.func103 (by kernel_rfl) rfl #[.agg #[.bool ((rd_T112 l0 x5_1).f0), .int .i64 ((rd_T112 l0 x5_1).f1), .slice A443_2 ((rd_T112 l0 x5_1).f2).length c443_2], .agg #[.bool ((rd_T112 l1 x5_1).f0), .int .i64 ((rd_T112 l1 x5_1).f1), .slice A444_2 ((rd_T112 l1 x5_1).f2).length c444_2]] (by rfl) rfl rfl (by (try simp only [List.map_toArray, List.map_cons, List.map_nil]); first | done | rfl | (simp only [List.length_drop, List.length_take]; rfl)) ?_
                with_reducible refine (laws_eqBlock.calls k1 ((rd_T112 l0 x5_1).f0) ((rd_T112 l0 x5_1).f1) _ _ ((rd_T112 l0 x5_1).f2) ((rd_T112 l1 x5_1).f0) ((rd_T112 l1 x5_1).f1) _ _ ((rd_T112 l1 x5_1).f2) false _ ?side1 ?side2 ?side3 ?side4 A7.out).mono ?_
                (case side1 => repeat (first | exact (Kd.C_below HR443_2.out HB.out) | (with_reducible refine Kd.C_alloc ?_ _) | (with_reducible refine Kd.C_drewN ?_ _) | (with_reducible refine Kd.C_drew ?_)))
                (case side2 => exact HC443_2.out)
                (case side3 => repeat (first | exact (Kd.C_below HR444_2.out HB.out) | (with_reducible refine Kd.C_alloc ?_ _) | (with_reducible refine Kd.C_drewN ?_ _) | (with_reducible refine Kd.C_drew ?_)))
                (case side4 => exact HC444_2.out)
                rintro e w12 ⟨rfl, hb⟩
                refine ⟨_, rfl, ?_⟩
                have n0_ := Aside0.mk (below_step (by repeat (first | (with_reducible first | exact HB.out | apply below_alloc | apply pw_below_drewN | apply below_drew1) | exact HB.out)) hb)
                clear HB
                have HB := n0_
                clear n0_
                (try clear hb)
                (try clear hb2)
                (try clear hk)
                (try clear hi)
                refine hK.out _ _ ⟨((HB.out.cell (World.block_lt_of_cell? w _ hw443_0)).trans hw443_0), ((HB.out.cell (World.block_lt_of_cell? w _ hw443_1)).trans hw443_1), ((HB.out.cell (World.block_lt_of_cell? w _ hw443_2)).trans hw443_2), ((HB.out.cell (World.block_lt_of_cell? w _ hw444_0)).trans hw444_0), ((HB.out.cell (World.block_lt_of_cell? w _ hw444_1)).trans hw444_1), ((HB.out.cell (World.block_lt_of_cell? w _ hw444_2)).trans hw444_2)⟩ (fun hHeld => ?_)
                clear hK K
                refine norm_ (a' := ?_) ?_ ?_
                rotate_left
                · show Act.put _ (some 25) _ = _
                  simp only [Act.put, List.setIfInBounds_toArray, List.set_cons_zero, List.set_cons_succ, i64_w, i32_w]
                  rfl
                refine pure_ (i := 9) (N := some 26) (v := ?_) (a' := ?_) #[true, true, true, true, true, true, true, true, true, true] rfl rfl (any_of HT_.out (by kernel_rfl)) (fun _ _ _ h => h) (Or.inl ⟨by rfl, ?_⟩) ?_ ?_
                rotate_left
                · intro w'
                  go_simp
                  with_reducible rfl
                rotate_left
                · simp only [Act.put, List.setIfInBounds_toArray, List.set_cons_zero, List.set_cons_succ, i64_w, i32_w]
                  rfl
                refine done_ (done_of HT_.out (by kernel_rfl)) ?_
                try go_wp2
                go_ret
                exact ⟨by first | rfl | (simp [errW_none, errW_some] <;> rfl) | (simp [*, errW_none, errW_some] <;> rfl), by repeat (first | (with_reducible first | exact HB.out | apply below_alloc | apply pw_below_drewN | apply below_drew1) | exact HB.out)⟩
            · rw [if_neg c6] at H
              exact absurd H (by simp)
          · rw [if_neg c5] at H
            exact absurd H (by simp)
        · rw [if_neg c4] at H
          have c4b0 : decide (x5_1 < (l0.length : Int)) = false := decide_eq_false c4
          clear c4
          obtain rfl := Option.some.inj H
          go_wp2
          go_ret
          exact ⟨by first | rfl | (simp [errW_none, errW_some] <;> rfl) | (simp [*, errW_none, errW_some] <;> rfl), by repeat (first | (with_reducible first | exact HB.out | apply below_alloc | apply pw_below_drewN | apply below_drew1) | exact HB.out)⟩
  · rw [if_neg c3] at H
    have c3b0 : ((l0.length : Int) == (l1.length : Int)) = false := beq_eq_false_iff_ne.mpr c3
    have c3b1 : ((l0.length : Int) != (l1.length : Int)) = true := bne_iff_ne.mpr c3
    have c3b2 : (l0.length == l1.length) = false := by first | simpa using c3 | (simp at c3 ⊢; omega)
    obtain rfl := Option.some.inj H
    go_enter Try.func72, Try.ntmps72
    go_wp2
    go_ret
    exact ⟨by first | rfl | (simp [errW_none, errW_some] <;> rfl) | (simp [*, errW_none, errW_some] <;> rfl), by repeat (first | (with_reducible first | exact HB.out | apply below_alloc | apply pw_below_drewN | apply below_drew1) | exact HB.out)⟩

end Go.Proofs.Ytijbejiajaiciaa.PC

/- Functions of the translation as plain Lean functions, and for each that its call comes to just what its Lean function answers; its conditions stand in each theorem. Written by a program of this session. -/
namespace Go.Proofs.Ytijbejiajaiciaa.PC
open Go.RowKit Go.Proofs.YtijbejiajaiciaaW.PrintWords Go.Proofs.YtijbejiajaiciaaW.PrintLast Go.Proofs.YtijbejiajaiciaaW.PrintMore
attribute [local go_sem] max2_int min2_int max_two min_two max_three min_three max_four min_four   -- for this text's walks alone
set_option linter.unusedVariables false
set_option linter.unusedSimpArgs false

/-! ### laws_eqFlash: function 35 -/
def laws_eqFlash.f (k : Nat) (l0_0 : List (S112)) (l1_0 : List (S112)) : Option (Bool) := (laws_eqBlockS.f k l0_0 l1_0).bind fun t448 => (if t448 = true then (some true) else (some false))
theorem laws_eqFlash.mono : ∀ a0 a1 k, LeO (laws_eqFlash.f k a0 a1) (laws_eqFlash.f (k + 1) a0 a1) := by
  intro a0 a1 k
  unfold laws_eqFlash.f
  repeat' first
      | (with_reducible exact laws_eqBlockS.mono _ _ _)
      | (with_reducible exact LeO.refl _)
      | (with_reducible exact LeO.none _)
      | (with_reducible refine LeO.ite ?_ ?_)
      | (with_reducible refine LeO.bind ?_ (fun _ => ?_))
      | exact laws_eqBlockS.mono _ _ _
      | exact LeO.none _
      | refine LeO.ite ?_ ?_
      | refine LeO.bind ?_ (fun _ => ?_)
set_option maxHeartbeats 8000000 in
set_option maxRecDepth 100000 in
theorem laws_eqFlash.calls (k : Nat) (A0_0 : Option Addr) (c0_0 : Nat) (l0_0 : List (S112)) (A1_0 : Option Addr) (c1_0 : Nat) (l1_0 : List (S112)) (r : Bool) (w : World) (hr0_0 : Kd.C k112 w A0_0 l0_0.length l0_0) (hc0_0 : l0_0.length ≤ c0_0) (hr1_0 : Kd.C k112 w A1_0 l1_0.length l1_0) (hc1_0 : l1_0.length ≤ c1_0) (h : laws_eqFlash.f k l0_0 l1_0 = some r) :
    Calls Try.prog 35 #[.agg #[.slice A0_0 l0_0.length c0_0], .agg #[.slice A1_0 l1_0.length c1_0]] w fun e w' => e = .returned (.bool r) ∧ Below w.heap.size w w' := by
  have hu59 := Try.underlying59
  have HR0_0 := Aside0.mk hr0_0
  have HC0_0 := Aside0.mk hc0_0
  clear hr0_0 hc0_0
  have HR1_0 := Aside0.mk hr1_0
  have HC1_0 := Aside0.mk hc1_0
  clear hr1_0 hc1_0
  have HB := Aside0.mk (Below.refl w.heap.size w)
  have H : ((laws_eqBlockS.f k l0_0 l1_0).bind fun t448 => (if t448 = true then (some true) else (some false))) = some r := h
  clear h
  replace H := Option.bind_eq_some_iff.mp H
  obtain ⟨t448, A30, H⟩ := H
  replace H : (if t448 = true then (some true) else (some false)) = some r := H
  have A3 := Aside0.mk A30
  clear A30
  by_cases c4 : t448 = true
  · subst c4
    have H1 : (some true) = some r := by rw [if_pos rfl] at H; exact H
    clear H
    have H := H1
    clear H1
    obtain rfl := Option.some.inj H
    go_enter Try.func35, Try.ntmps35
    go_wp2_with (first | ((with_reducible refine gate_dst (N := 2) rfl ?_); refine box_event ?hg (N := 2) ?hd (cs := #[.slice A0_0 l0_0.length c0_0]) (t := 59) ?hr ?_; (case hd => rfl); (case hg => rfl); (case hr => first | (go_simp; done) | (go_simp; rfl)); intro gb446 hg w5 hbox hb; have n0_ := Aside0.mk (below_step (by repeat (first | (with_reducible first | exact HB.out | apply below_alloc | apply pw_below_drewN | apply below_drew1) | exact HB.out)) hb); have n1_ := Aside0.mk (hbox); have n2_ := Aside0.mk ((by rw [hg]; exact (below_size (by repeat (first | (with_reducible first | exact HB.out | apply below_alloc | apply pw_below_drewN | apply below_drew1) | exact HB.out))) : w.heap.size ≤ gb446)); have n3_ := Aside0.mk ((by rw [hg]; exact (below_size (by repeat (first | (with_reducible first | exact HB.out | apply below_alloc | apply pw_below_drewN | apply below_drew1) | exact HB.out))) : w.heap.size ≤ gb446)); clear HB; have HB := n0_; have BK446 := n1_; have GW446 := n2_; have GE446 := n3_; clear n0_ n1_ n2_ n3_; clear hb hbox hg) | ((with_reducible refine gate_dst (N := 3) rfl ?_); refine box_event ?hg (N := 3) ?hd (cs := #[.slice A1_0 l1_0.length c1_0]) (t := 59) ?hr ?_; (case hd => rfl); (case hg => rfl); (case hr => first | (go_simp; done) | (go_simp; rfl)); intro gb447 hg w6 hbox hb; have n0_ := Aside0.mk (blk_below (g := gb446) (o := .cells #[.slice A0_0 l0_0.length c0_0] 59 (0, 0)) (by (with_reducible repeat (first | refine blk_drewN ?_ _ | refine blk_drew ?_ | refine blk_alloc ?_ _)); exact BK446.out) hb); have n1_ := Aside0.mk (below_step (by repeat (first | (with_reducible first | exact HB.out | apply below_alloc | apply pw_below_drewN | apply below_drew1 | refine below_set ?_ GE446.out) | exact HB.out)) hb); have n2_ := Aside0.mk (hbox); have n3_ := Aside0.mk ((by rw [hg]; exact (below_size (by repeat (first | (with_reducible first | exact HB.out | apply below_alloc | apply pw_below_drewN | apply below_drew1 | refine below_set ?_ GE446.out) | exact HB.out))) : w.heap.size ≤ gb447)); have n4_ := Aside0.mk ((by rw [hg]; exact (below_size (by repeat (first | (with_reducible first | exact HB.out | apply below_alloc | apply pw_below_drewN | apply below_drew1 | refine below_set ?_ GE446.out) | exact HB.out))) : w.heap.size ≤ gb447)); have n5_ := Aside0.mk ((by rw [hg]; exact Nat.ne_of_lt (blk_lt (g := gb446) (o := .cells #[.slice A0_0 l0_0.length c0_0] 59 (0, 0)) (by (with_reducible repeat (first | refine blk_drewN ?_ _ | refine blk_drew ?_ | refine blk_alloc ?_ _)); exact BK446.out)) : gb446 ≠ gb447)); have n6_ := Aside0.mk ((by rw [hg]; exact Nat.ne_of_gt (blk_lt (g := gb446) (o := .cells #[.slice A0_0 l0_0.length c0_0] 59 (0, 0)) (by (with_reducible repeat (first | refine blk_drewN ?_ _ | refine blk_drew ?_ | refine blk_alloc ?_ _)); exact BK446.out)) : gb447 ≠ gb446)); clear BK446; clear HB; have BK446 := n0_; have HB := n1_; have BK447 := n2_; have GW447 := n3_; have GE447 := n4_; have NB446_447 := n5_; have NB447_446 := n6_; clear n0_ n1_ n2_ n3_ n4_ n5_ n6_; clear hb hbox hg; have hnb7 := NB446_447.out; have hnc7 := NB447_446.out; have hcz8_0 : w6.cell? ⟨gb446, 0, none⟩ = some (.slice A0_0 l0_0.length c0_0) := (blk_cell BK446.out 0).trans rfl; have hfz8_0 := blk_frozen BK446.out 0; have hcz9_0 : w6.cell? ⟨gb447, 0, none⟩ = some (.slice A1_0 l1_0.length c1_0) := (blk_cell BK447.out 0).trans rfl; have hfz9_0 := blk_frozen BK447.out 0) | ((with_reducible refine gate_callee (f := 72) rfl ?_); refine goesL_ (some 9) rfl rfl Try.func72 (by kernel_rfl) rfl #[.slice A0_0 l0_0.length c0_0, .slice A1_0 l1_0.length c1_0] rfl (by (try simp only [List.map_toArray, List.map_cons, List.map_nil]); first | done | rfl | (simp only [List.length_drop, List.length_take]; rfl)) ?_; (with_reducible refine (laws_eqBlockS.calls k _ _ l0_0 _ _ l1_0 true _ ?side1 ?side2 ?side3 ?side4 A3.out).mono ?_); (case side1 => repeat (first | exact (Kd.C_below HR0_0.out HB.out) | (with_reducible refine Kd.C_alloc ?_ _) | (with_reducible refine Kd.C_drewN ?_ _) | (with_reducible refine Kd.C_drew ?_))); (case side2 => exact HC0_0.out); (case side3 => repeat (first | exact (Kd.C_below HR1_0.out HB.out) | (with_reducible refine Kd.C_alloc ?_ _) | (with_reducible refine Kd.C_drewN ?_ _) | (with_reducible refine Kd.C_drew ?_))); (case side4 => exact HC1_0.out); rintro e w10 ⟨rfl, hb⟩; refine ⟨_, rfl, ?_⟩; have n0_ := Aside0.mk (blk_below (g := gb446) (o := .cells #[.slice A0_0 l0_0.length c0_0] 59 (0, 0)) (by (with_reducible repeat (first | refine blk_drewN ?_ _ | refine blk_drew ?_ | refine blk_alloc ?_ _)); exact BK446.out) hb); have n1_ := Aside0.mk (blk_below (g := gb447) (o := .cells #[.slice A1_0 l1_0.length c1_0] 59 (0, 0)) (by (with_reducible repeat (first | refine blk_drewN ?_ _ | refine blk_drew ?_ | refine blk_alloc ?_ _)); exact BK447.out) hb); have n2_ := Aside0.mk (below_step (by repeat (first | (with_reducible first | exact HB.out | apply below_alloc | apply pw_below_drewN | apply below_drew1 | refine below_set ?_ GE446.out | refine below_set ?_ GE447.out) | exact HB.out)) hb); clear BK446; clear BK447; clear HB; have BK446 := n0_; have BK447 := n1_; have HB := n2_; clear n0_ n1_ n2_; (try clear hb); (try clear hb2); (try clear hk); (try clear hi)))
    go_ret
    exact ⟨by first | rfl | (simp [errW_none, errW_some] <;> rfl) | (simp [*, errW_none, errW_some] <;> rfl), by repeat (first | (with_reducible first | exact HB.out | apply below_alloc | apply pw_below_drewN | apply below_drew1 | refine below_set ?_ GE446.out | refine below_set ?_ GE447.out) | exact HB.out)⟩
  · replace c4 := Bool.eq_false_iff.mpr c4
    subst c4
    have H1 : (some false) = some r := by rw [if_neg (show ¬ (false = true) by decide)] at H; exact H
    clear H
    have H := H1
    clear H1
    obtain rfl := Option.some.inj H
    go_enter Try.func35, Try.ntmps35
    go_wp2_with (first | ((with_reducible refine gate_dst (N := 2) rfl ?_); refine box_event ?hg (N := 2) ?hd (cs := #[.slice A0_0 l0_0.length c0_0]) (t := 59) ?hr ?_; (case hd => rfl); (case hg => rfl); (case hr => first | (go_simp; done) | (go_simp; rfl)); intro gb446 hg w11 hbox hb; have n0_ := Aside0.mk (below_step (by repeat (first | (with_reducible first | exact HB.out | apply below_alloc | apply pw_below_drewN | apply below_drew1) | exact HB.out)) hb); have n1_ := Aside0.mk (hbox); have n2_ := Aside0.mk ((by rw [hg]; exact (below_size (by repeat (first | (with_reducible first | exact HB.out | apply below_alloc | apply pw_below_drewN | apply below_drew1) | exact HB.out))) : w.heap.size ≤ gb446)); have n3_ := Aside0.mk ((by rw [hg]; exact (below_size (by repeat (first | (with_reducible first | exact HB.out | apply below_alloc | apply pw_below_drewN | apply below_drew1) | exact HB.out))) : w.heap.size ≤ gb446)); clear HB; have HB := n0_; have BK446 := n1_; have GW446 := n2_; have GE446 := n3_; clear n0_ n1_ n2_ n3_; clear hb hbox hg) | ((with_reducible refine gate_dst (N := 3) rfl ?_); refine box_event ?hg (N := 3) ?hd (cs := #[.slice A1_0 l1_0.length c1_0]) (t := 59) ?hr ?_; (case hd => rfl); (case hg => rfl); (case hr => first | (go_simp; done) | (go_simp; rfl)); intro gb447 hg w12 hbox hb; have n0_ := Aside0.mk (blk_below (g := gb446) (o := .cells #[.slice A0_0 l0_0.length c0_0] 59 (0, 0)) (by (with_reducible repeat (first | refine blk_drewN ?_ _ | refine blk_drew ?_ | refine blk_alloc ?_ _)); exact BK446.out) hb); have n1_ := Aside0.mk (below_step (by repeat (first | (with_reducible first | exact HB.out | apply below_alloc | apply pw_below_drewN | apply below_drew1 | refine below_set ?_ GE446.out) | exact HB.out)) hb); have n2_ := Aside0.mk (hbox); have n3_ := Aside0.mk ((by rw [hg]; exact (below_size (by repeat (first | (with_reducible first | exact HB.out | apply below_alloc | apply pw_below_drewN | apply below_drew1 | refine below_set ?_ GE446.out) | exact HB.out))) : w.heap.size ≤ gb447)); have n4_ := Aside0.mk ((by rw [hg]; exact (below_size (by repeat (first | (with_reducible first | exact HB.out | apply below_alloc | apply pw_below_drewN | apply below_drew1 | refine below_set ?_ GE446.out) | exact HB.out))) : w.heap.size ≤ gb447)); have n5_ := Aside0.mk ((by rw [hg]; exact Nat.ne_of_lt (blk_lt (g := gb446) (o := .cells #[.slice A0_0 l0_0.length c0_0] 59 (0, 0)) (by (with_reducible repeat (first | refine blk_drewN ?_ _ | refine blk_drew ?_ | refine blk_alloc ?_ _)); exact BK446.out)) : gb446 ≠ gb447)); have n6_ := Aside0.mk ((by rw [hg]; exact Nat.ne_of_gt (blk_lt (g := gb446) (o := .cells #[.slice A0_0 l0_0.length c0_0] 59 (0, 0)) (by (with_reducible repeat (first | refine blk_drewN ?_ _ | refine blk_drew ?_ | refine blk_alloc ?_ _)); exact BK446.out)) : gb447 ≠ gb446)); clear BK446; clear HB; have BK446 := n0_; have HB := n1_; have BK447 := n2_; have GW447 := n3_; have GE447 := n4_; have NB446_447 := n5_; have NB447_446 := n6_; clear n0_ n1_ n2_ n3_ n4_ n5_ n6_; clear hb hbox hg; have hnb13 := NB446_447.out; have hnc13 := NB447_446.out; have hcz14_0 : w12.cell? ⟨gb446, 0, none⟩ = some (.slice A0_0 l0_0.length c0_0) := (blk_cell BK446.out 0).trans rfl; have hfz14_0 := blk_frozen BK446.out 0; have hcz15_0 : w12.cell? ⟨gb447, 0, none⟩ = some (.slice A1_0 l1_0.length c1_0) := (blk_cell BK447.out 0).trans rfl; have hfz15_0 := blk_frozen BK447.out 0) | ((with_reducible refine gate_callee (f := 72) rfl ?_); refine goesL_ (some 9) rfl rfl Try.func72 (by kernel_rfl) rfl #[.slice A0_0 l0_0.length c0_0, .slice A1_0 l1_0.length c1_0] rfl (by (try simp only [List.map_toArray, List.map_cons, List.map_nil]); first | done | rfl | (simp only [List.length_drop, List.length_take]; rfl)) ?_; (with_reducible refine (laws_eqBlockS.calls k _ _ l0_0 _ _ l1_0 false _ ?side1 ?side2 ?side3 ?side4 A3.out).mono ?_); (case side1 => repeat (first | exact (Kd.C_below HR0_0.out HB.out) | (with_reducible refine Kd.C_alloc ?_ _) | (with_reducible refine Kd.C_drewN ?_ _) | (with_reducible refine Kd.C_drew ?_))); (case side2 => exact HC0_0.out); (case side3 => repeat (first | exact (Kd.C_below HR1_0.out HB.out) | (with_reducible refine Kd.C_alloc ?_ _) | (with_reducible refine Kd.C_drewN ?_ _) | (with_reducible refine Kd.C_drew ?_))); (case side4 => exact HC1_0.out); rintro e w16 ⟨rfl, hb⟩; refine ⟨_, rfl, ?_⟩; have n0_ := Aside0.mk (blk_below (g := gb446) (o := .cells #[.slice A0_0 l0_0.length c0_0] 59 (0, 0)) (by (with_reducible repeat (first | refine blk_drewN ?_ _ | refine blk_drew ?_ | refine blk_alloc ?_ _)); exact BK446.out) hb); have n1_ := Aside0.mk (blk_below (g := gb447) (o := .cells #[.slice A1_0 l1_0.length c1_0] 59 (0, 0)) (by (with_reducible repeat (first | refine blk_drewN ?_ _ | refine blk_drew ?_ | refine blk_alloc ?_ _)); exact BK447.out) hb); have n2_ := Aside0.mk (below_step (by repeat (first | (with_reducible first | exact HB.out | apply below_alloc | apply pw_below_drewN | apply below_drew1 | refine below_set ?_ GE446.out | refine below_set ?_ GE447.out) | exact HB.out)) hb); clear BK446; clear BK447; clear HB; have BK446 := n0_; have BK447 := n1_; have HB := n2_; clear n0_ n1_ n2_; (try clear hb); (try clear hb2); (try clear hk); (try clear hi)))
    go_ret
    exact ⟨by first | rfl | (simp [errW_none, errW_some] <;> rfl) | (simp [*, errW_none, errW_some] <;> rfl), by repeat (first | (with_reducible first | exact HB.out | apply below_alloc | apply pw_below_drewN | apply below_drew1 | refine below_set ?_ GE446.out | refine below_set ?_ GE447.out) | exact HB.out)⟩

end Go.Proofs.Ytijbejiajaiciaa.PC

/- laws_FnExactFreeBlocks: the call comes to just what its Lean function answers; what it hands to what writes it lies apart from all else. Printed by a program of this session. -/
namespace Go.Proofs.Ytijbejiajaiciaa.PC
open Go.RowKit Go.Proofs.YtijbejiajaiciaaW.PrintWords Go.Proofs.YtijbejiajaiciaaW.PrintLast Go.Proofs.YtijbejiajaiciaaW.PrintMore
attribute [local go_sem] max2_int min2_int max_two min_two max_three min_three max_four min_four
set_option linter.unusedVariables false
set_option linter.unusedSimpArgs false
def laws_FnExactFreeBlocks.f (k : Nat) (l0_0 : List (S144)) : Option (Bool) := ((laws_szFlash.f k l0_0 1048576).bind fun t3 => (if t3 < 0 then (some true) else ((laws_toFlash.f k l0_0).bind fun t5 => ((spec_FreeBlocks.f k t5).bind fun t8 => ((laws_toFlash.f k l0_0).bind fun t11 => ((impl_FreeBlocks.f k t11).bind fun t15 => ((laws_eqIntS.f k t15 t8).bind fun t18 => (if t18 = true then ((laws_toFlash.f k l0_0).bind fun t20 => ((laws_eqFlash.f k t11 t20).bind fun t23 => (if t23 = true then ((laws_markFlash.f k t11 1).bind fun b11 => ((laws_eqIntS.f k t15 t8).bind fun t28 => (if t28 = true then (if b11.1 < 0 then (some false) else ((laws_markIntS.f k t15 1).bind fun b15 => ((laws_heldIntS.f k b15.2 1).bind fun t33 => (if t33 < 0 then (some false) else (if t33 = b15.1 then ((laws_toFlash.f k l0_0).bind fun t35 => ((impl_FreeBlocks.f k t35).bind fun t38 => ((laws_eqIntS.f k t38 t8).bind fun t41 => (if t41 = true then ((laws_heldIntS.f k b15.2 1).bind fun t43 => (if t43 < 0 then (some false) else (if t43 = b15.1 then (some true) else (some false)))) else (some false))))) else (some false)))))) else (some false)))) else (some false)))) else (some false)))))))))
theorem laws_FnExactFreeBlocks.mono : ∀ a0 k, LeO (laws_FnExactFreeBlocks.f k a0) (laws_FnExactFreeBlocks.f (k + 1) a0) := by
  intro a0 k
  unfold laws_FnExactFreeBlocks.f
  repeat' first
      | (with_reducible exact impl_FreeBlocks.mono _ _)
      | (with_reducible exact laws_eqFlash.mono _ _ _)
      | (with_reducible exact laws_eqIntS.mono _ _ _)
      | (with_reducible exact laws_heldIntS.mono _ _ _)
      | (with_reducible exact laws_markFlash.mono _ _ _)
      | (with_reducible exact laws_markIntS.mono _ _ _)
      | (with_reducible exact laws_szFlash.mono _ _ _)
      | (with_reducible exact laws_toFlash.mono _ _)
      | (with_reducible exact spec_FreeBlocks.mono _ _)
      | (with_reducible exact LeO.refl _)
      | (with_reducible exact LeO.none _)
      | (with_reducible refine LeO.ite ?_ ?_)
      | (with_reducible refine LeO.bind ?_ (fun _ => ?_))
      | exact impl_FreeBlocks.mono _ _
      | exact laws_eqFlash.mono _ _ _
      | exact laws_eqIntS.mono _ _ _
      | exact laws_heldIntS.mono _ _ _
      | exact laws_markFlash.mono _ _ _
      | exact laws_markIntS.mono _ _ _
      | exact laws_szFlash.mono _ _ _
      | exact laws_toFlash.mono _ _
      | exact spec_FreeBlocks.mono _ _
      | exact LeO.none _
      | refine LeO.ite ?_ ?_
      | refine LeO.bind ?_ (fun _ => ?_)
set_option maxHeartbeats 8000000 in
set_option maxRecDepth 100000 in
theorem laws_FnExactFreeBlocks.calls (k : Nat) (A0_0 : Option Addr) (c0_0 : Nat) (l0_0 : List (S144)) (r : Bool) (hT : Aside0 (r = true)) (w : World) (hr0_0 : Kd.C k144 w A0_0 l0_0.length l0_0) (hc0_0 : l0_0.length ≤ c0_0) (h : laws_FnExactFreeBlocks.f k l0_0 = some r) :
    Calls Try.prog 6 #[.agg #[.slice A0_0 l0_0.length c0_0]] w fun e w' => e = .returned (.bool r) ∧ Below w.heap.size w w' := by
  have HR0_0 := Aside0.mk hr0_0
  have HC0_0 := Aside0.mk hc0_0
  clear hr0_0 hc0_0
  have HB := Aside0.mk (Below.refl w.heap.size w)
  have HL := Aside0.mk (Nat.le_refl w.heap.size)
  have H : ((laws_szFlash.f k l0_0 1048576).bind fun t3 => (if t3 < 0 then (some true) else ((laws_toFlash.f k l0_0).bind fun t5 => ((spec_FreeBlocks.f k t5).bind fun t8 => ((laws_toFlash.f k l0_0).bind fun t11 => ((impl_FreeBlocks.f k t11).bind fun t15 => ((laws_eqIntS.f k t15 t8).bind fun t18 => (if t18 = true then ((laws_toFlash.f k l0_0).bind fun t20 => ((laws_eqFlash.f k t11 t20).bind fun t23 => (if t23 = true then ((laws_markFlash.f k t11 1).bind fun b11 => ((laws_eqIntS.f k t15 t8).bind fun t28 => (if t28 = true then (if b11.1 < 0 then (some false) else ((laws_markIntS.f k t15 1).bind fun b15 => ((laws_heldIntS.f k b15.2 1).bind fun t33 => (if t33 < 0 then (some false) else (if t33 = b15.1 then ((laws_toFlash.f k l0_0).bind fun t35 => ((impl_FreeBlocks.f k t35).bind fun t38 => ((laws_eqIntS.f k t38 t8).bind fun t41 => (if t41 = true then ((laws_heldIntS.f k b15.2 1).bind fun t43 => (if t43 < 0 then (some false) else (if t43 = b15.1 then (some true) else (some false)))) else (some false))))) else (some false)))))) else (some false)))) else (some false)))) else (some false))))))))) = some r := h
  clear h
  replace H := Option.bind_eq_some_iff.mp H
  obtain ⟨t3, Fa00, H⟩ := H
  replace H : (if t3 < 0 then (some true) else ((laws_toFlash.f k l0_0).bind fun t5 => ((spec_FreeBlocks.f k t5).bind fun t8 => ((laws_toFlash.f k l0_0).bind fun t11 => ((impl_FreeBlocks.f k t11).bind fun t15 => ((laws_eqIntS.f k t15 t8).bind fun t18 => (if t18 = true then ((laws_toFlash.f k l0_0).bind fun t20 => ((laws_eqFlash.f k t11 t20).bind fun t23 => (if t23 = true then ((laws_markFlash.f k t11 1).bind fun b11 => ((laws_eqIntS.f k t15 t8).bind fun t28 => (if t28 = true then (if b11.1 < 0 then (some false) else ((laws_markIntS.f k t15 1).bind fun b15 => ((laws_heldIntS.f k b15.2 1).bind fun t33 => (if t33 < 0 then (some false) else (if t33 = b15.1 then ((laws_toFlash.f k l0_0).bind fun t35 => ((impl_FreeBlocks.f k t35).bind fun t38 => ((laws_eqIntS.f k t38 t8).bind fun t41 => (if t41 = true then ((laws_heldIntS.f k b15.2 1).bind fun t43 => (if t43 < 0 then (some false) else (if t43 = b15.1 then (some true) else (some false)))) else (some false))))) else (some false)))))) else (some false)))) else (some false)))) else (some false)))))))) = some r := H
  have Fa0 := Aside0.mk Fa00
  clear Fa00
  by_cases cd1 : t3 < 0
  · rw [if_pos cd1] at H
    have cd1b0 : decide (t3 < 0) = true := decide_eq_true cd1
    clear cd1
    obtain rfl := Option.some.inj H
    go_enter Try.func6, Try.ntmps6
    go_wp2_with (first | ((with_reducible refine gate_dst (N := 1) rfl ?_); refine box_event ?hg (N := 1) ?hd (cs := #[.slice A0_0 l0_0.length c0_0]) (t := 54) ?hr ?_; (case hd => rfl); (case hg => rfl); (case hr => first | (go_simp; done) | (go_simp; rfl)); intro gb1 hg w1 hbox hb; have GBK1 := Aside0.mk (show gb1 = w.heap.size ∧ gb1 < w1.heap.size from ⟨hg, blk_lt hbox⟩); have GW1 := Aside0.mk (show w.heap.size ≤ gb1 by have q_ := below_size HB.out; rw [hg]; exact q_); have BK1 := Aside0.mk hbox; replace HB := Aside0.mk (below_step HB.out hb); replace HL := Aside0.mk (And.intro HL.out (below_size hb)); clear hb hbox hg; have hcz2 : w1.cell? ⟨gb1, 0, none⟩ = some (.slice A0_0 l0_0.length c0_0) := (blk_cell BK1.out 0).trans rfl; have hfz3 := blk_frozen BK1.out 0) | ((with_reducible refine gate_callee (f := 31) rfl ?_); refine goesL_ (some 13) rfl rfl Try.func31 (by kernel_rfl) rfl #[.agg #[.slice A0_0 l0_0.length c0_0], .int .i64 1048576] rfl (by (try simp only [List.map_toArray, List.map_cons, List.map_nil]); first | done | rfl | (simp only [List.length_drop, List.length_take]; rfl)) ?_; (with_reducible refine (laws_szFlash.calls k _ _ l0_0 1048576 t3 _ ?side1 ?side2 Fa0.out).mono ?_); (case side1 => exact Kd.C_below HR0_0.out HB.out); (case side2 => exact HC0_0.out); rintro e w4 ⟨rfl, hb⟩; refine ⟨_, rfl, ?_⟩; replace BK1 := Aside0.mk (blk_below BK1.out hb); replace HB := Aside0.mk (below_step HB.out hb); replace HL := Aside0.mk (And.intro HL.out (below_size hb)); clear hb; clear hcz2 hfz3; have hcz5 : w4.cell? ⟨gb1, 0, none⟩ = some (.slice A0_0 l0_0.length c0_0) := (blk_cell BK1.out 0).trans rfl; have hfz6 := blk_frozen BK1.out 0))
    go_ret
    exact ⟨rfl, HB.out⟩
  · rw [if_neg cd1] at H
    have cd1b0 : decide (t3 < 0) = false := decide_eq_false cd1
    clear cd1
    replace H := Option.bind_eq_some_iff.mp H
    obtain ⟨t5, Fa20, H⟩ := H
    replace H : ((spec_FreeBlocks.f k t5).bind fun t8 => ((laws_toFlash.f k l0_0).bind fun t11 => ((impl_FreeBlocks.f k t11).bind fun t15 => ((laws_eqIntS.f k t15 t8).bind fun t18 => (if t18 = true then ((laws_toFlash.f k l0_0).bind fun t20 => ((laws_eqFlash.f k t11 t20).bind fun t23 => (if t23 = true then ((laws_markFlash.f k t11 1).bind fun b11 => ((laws_eqIntS.f k t15 t8).bind fun t28 => (if t28 = true then (if b11.1 < 0 then (some false) else ((laws_markIntS.f k t15 1).bind fun b15 => ((laws_heldIntS.f k b15.2 1).bind fun t33 => (if t33 < 0 then (some false) else (if t33 = b15.1 then ((laws_toFlash.f k l0_0).bind fun t35 => ((impl_FreeBlocks.f k t35).bind fun t38 => ((laws_eqIntS.f k t38 t8).bind fun t41 => (if t41 = true then ((laws_heldIntS.f k b15.2 1).bind fun t43 => (if t43 < 0 then (some false) else (if t43 = b15.1 then (some true) else (some false)))) else (some false))))) else (some false)))))) else (some false)))) else (some false)))) else (some false)))))) = some r := H
    have Fa2 := Aside0.mk Fa20
    clear Fa20
    replace H := Option.bind_eq_some_iff.mp H
    obtain ⟨t8, Fa30, H⟩ := H
    replace H : ((laws_toFlash.f k l0_0).bind fun t11 => ((impl_FreeBlocks.f k t11).bind fun t15 => ((laws_eqIntS.f k t15 t8).bind fun t18 => (if t18 = true then ((laws_toFlash.f k l0_0).bind fun t20 => ((laws_eqFlash.f k t11 t20).bind fun t23 => (if t23 = true then ((laws_markFlash.f k t11 1).bind fun b11 => ((laws_eqIntS.f k t15 t8).bind fun t28 => (if t28 = true then (if b11.1 < 0 then (some false) else ((laws_markIntS.f k t15 1).bind fun b15 => ((laws_heldIntS.f k b15.2 1).bind fun t33 => (if t33 < 0 then (some false) else (if t33 = b15.1 then ((laws_toFlash.f k l0_0).bind fun t35 => ((impl_FreeBlocks.f k t35).bind fun t38 => ((laws_eqIntS.f k t38 t8).bind fun t41 => (if t41 = true then ((laws_heldIntS.f k b15.2 1).bind fun t43 => (if t43 < 0 then (some false) else (if t43 = b15.1 then (some true) else (some false)))) else (some false))))) else (some false)))))) else (some false)))) else (some false)))) else (some false))))) = some r := H
    have Fa3 := Aside0.mk Fa30
    clear Fa30
    replace H := Option.bind_eq_some_iff.mp H
    obtain ⟨t11, Fa40, H⟩ := H
    replace H : ((impl_FreeBlocks.f k t11).bind fun t15 => ((laws_eqIntS.f k t15 t8).bind fun t18 => (if t18 = true then ((laws_toFlash.f k l0_0).bind fun t20 => ((laws_eqFlash.f k t11 t20).bind fun t23 => (if t23 = true then ((laws_markFlash.f k t11 1).bind fun b11 => ((laws_eqIntS.f k t15 t8).bind fun t28 => (if t28 = true then (if b11.1 < 0 then (some false) else ((laws_markIntS.f k t15 1).bind fun b15 => ((laws_heldIntS.f k b15.2 1).bind fun t33 => (if t33 < 0 then (some false) else (if t33 = b15.1 then ((laws_toFlash.f k l0_0).bind fun t35 => ((impl_FreeBlocks.f k t35).bind fun t38 => ((laws_eqIntS.f k t38 t8).bind fun t41 => (if t41 = true then ((laws_heldIntS.f k b15.2 1).bind fun t43 => (if t43 < 0 then (some false) else (if t43 = b15.1 then (some true) else (some false)))) else (some false))))) else (some false)))))) else (some false)))) else (some false)))) else (some false)))) = some r := H
    have Fa4 := Aside0.mk Fa40
    clear Fa40
    replace H := Option.bind_eq_some_iff.mp H
    obtain ⟨t15, Fa50, H⟩ := H
    replace H : ((laws_eqIntS.f k t15 t8).bind fun t18 => (if t18 = true then ((laws_toFlash.f k l0_0).bind fun t20 => ((laws_eqFlash.f k t11 t20).bind fun t23 => (if t23 = true then ((laws_markFlash.f k t11 1).bind fun b11 => ((laws_eqIntS.f k t15 t8).bind fun t28 => (if t28 = true then (if b11.1 < 0 then (some false) else ((laws_markIntS.f k t15 1).bind fun b15 => ((laws_heldIntS.f k b15.2 1).bind fun t33 => (if t33 < 0 then (some false) else (if t33 = b15.1 then ((laws_toFlash.f k l0_0).bind fun t35 => ((impl_FreeBlocks.f k t35).bind fun t38 => ((laws_eqIntS.f k t38 t8).bind fun t41 => (if t41 = true then ((laws_heldIntS.f k b15.2 1).bind fun t43 => (if t43 < 0 then (some false) else (if t43 = b15.1 then (some true) else (some false)))) else (some false))))) else (some false)))))) else (some false)))) else (some false)))) else (some false))) = some r := H
    have Fa5 := Aside0.mk Fa50
    clear Fa50
    replace H := Option.bind_eq_some_iff.mp H
    obtain ⟨t18, Fa60, H⟩ := H
    replace H : (if t18 = true then ((laws_toFlash.f k l0_0).bind fun t20 => ((laws_eqFlash.f k t11 t20).bind fun t23 => (if t23 = true then ((laws_markFlash.f k t11 1).bind fun b11 => ((laws_eqIntS.f k t15 t8).bind fun t28 => (if t28 = true then (if b11.1 < 0 then (some false) else ((laws_markIntS.f k t15 1).bind fun b15 => ((laws_heldIntS.f k b15.2 1).bind fun t33 => (if t33 < 0 then (some false) else (if t33 = b15.1 then ((laws_toFlash.f k l0_0).bind fun t35 => ((impl_FreeBlocks.f k t35).bind fun t38 => ((laws_eqIntS.f k t38 t8).bind fun t41 => (if t41 = true then ((laws_heldIntS.f k b15.2 1).bind fun t43 => (if t43 < 0 then (some false) else (if t43 = b15.1 then (some true) else (some false)))) else (some false))))) else (some false)))))) else (some false)))) else (some false)))) else (some false)) = some r := H
    have Fa6 := Aside0.mk Fa60
    clear Fa60
    have cd7 : t18 = true := Classical.byContradiction fun hc_ => by rw [if_neg hc_] at H; exact absurd ((Option.some.inj H).trans hT.out) (by decide)
    rw [if_pos cd7] at H
    subst cd7
    replace H : ((laws_toFlash.f k l0_0).bind fun t20 => ((laws_eqFlash.f k t11 t20).bind fun t23 => (if t23 = true then ((laws_markFlash.f k t11 1).bind fun b11 => ((laws_eqIntS.f k t15 t8).bind fun t28 => (if t28 = true then (if b11.1 < 0 then (some false) else ((laws_markIntS.f k t15 1).bind fun b15 => ((laws_heldIntS.f k b15.2 1).bind fun t33 => (if t33 < 0 then (some false) else (if t33 = b15.1 then ((laws_toFlash.f k l0_0).bind fun t35 => ((impl_FreeBlocks.f k t35).bind fun t38 => ((laws_eqIntS.f k t38 t8).bind fun t41 => (if t41 = true then ((laws_heldIntS.f k b15.2 1).bind fun t43 => (if t43 < 0 then (some false) else (if t43 = b15.1 then (some true) else (some false)))) else (some false))))) else (some false)))))) else (some false)))) else (some false)))) = some r := H
    replace H := Option.bind_eq_some_iff.mp H
    obtain ⟨t20, Fa80, H⟩ := H
    replace H : ((laws_eqFlash.f k t11 t20).bind fun t23 => (if t23 = true then ((laws_markFlash.f k t11 1).bind fun b11 => ((laws_eqIntS.f k t15 t8).bind fun t28 => (if t28 = true then (if b11.1 < 0 then (some false) else ((laws_markIntS.f k t15 1).bind fun b15 => ((laws_heldIntS.f k b15.2 1).bind fun t33 => (if t33 < 0 then (some false) else (if t33 = b15.1 then ((laws_toFlash.f k l0_0).bind fun t35 => ((impl_FreeBlocks.f k t35).bind fun t38 => ((laws_eqIntS.f k t38 t8).bind fun t41 => (if t41 = true then ((laws_heldIntS.f k b15.2 1).bind fun t43 => (if t43 < 0 then (some false) else (if t43 = b15.1 then (some true) else (some false)))) else (some false))))) else (some false)))))) else (some false)))) else (some false))) = some r := H
    have Fa8 := Aside0.mk Fa80
    clear Fa80
    replace H := Option.bind_eq_some_iff.mp H
    obtain ⟨t23, Fa90, H⟩ := H
    replace H : (if t23 = true then ((laws_markFlash.f k t11 1).bind fun b11 => ((laws_eqIntS.f k t15 t8).bind fun t28 => (if t28 = true then (if b11.1 < 0 then (some false) else ((laws_markIntS.f k t15 1).bind fun b15 => ((laws_heldIntS.f k b15.2 1).bind fun t33 => (if t33 < 0 then (some false) else (if t33 = b15.1 then ((laws_toFlash.f k l0_0).bind fun t35 => ((impl_FreeBlocks.f k t35).bind fun t38 => ((laws_eqIntS.f k t38 t8).bind fun t41 => (if t41 = true then ((laws_heldIntS.f k b15.2 1).bind fun t43 => (if t43 < 0 then (some false) else (if t43 = b15.1 then (some true) else (some false)))) else (some false))))) else (some false)))))) else (some false)))) else (some false)) = some r := H
    have Fa9 := Aside0.mk Fa90
    clear Fa90
    have cd10 : t23 = true := Classical.byContradiction fun hc_ => by rw [if_neg hc_] at H; exact absurd ((Option.some.inj H).trans hT.out) (by decide)
    rw [if_pos cd10] at H
    subst cd10
    replace H : ((laws_markFlash.f k t11 1).bind fun b11 => ((laws_eqIntS.f k t15 t8).bind fun t28 => (if t28 = true then (if b11.1 < 0 then (some false) else ((laws_markIntS.f k t15 1).bind fun b15 => ((laws_heldIntS.f k b15.2 1).bind fun t33 => (if t33 < 0 then (some false) else (if t33 = b15.1 then ((laws_toFlash.f k l0_0).bind fun t35 => ((impl_FreeBlocks.f k t35).bind fun t38 => ((laws_eqIntS.f k t38 t8).bind fun t41 => (if t41 = true then ((laws_heldIntS.f k b15.2 1).bind fun t43 => (if t43 < 0 then (some false) else (if t43 = b15.1 then (some true) else (some false)))) else (some false))))) else (some false)))))) else (some false)))) = some r := H
    replace H := Option.bind_eq_some_iff.mp H
    obtain ⟨⟨t25, t26⟩, Fa110, H⟩ := H
    replace H : ((laws_eqIntS.f k t15 t8).bind fun t28 => (if t28 = true then (if t25 < 0 then (some false) else ((laws_markIntS.f k t15 1).bind fun b15 => ((laws_heldIntS.f k b15.2 1).bind fun t33 => (if t33 < 0 then (some false) else (if t33 = b15.1 then ((laws_toFlash.f k l0_0).bind fun t35 => ((impl_FreeBlocks.f k t35).bind fun t38 => ((laws_eqIntS.f k t38 t8).bind fun t41 => (if t41 = true then ((laws_heldIntS.f k b15.2 1).bind fun t43 => (if t43 < 0 then (some false) else (if t43 = b15.1 then (some true) else (some false)))) else (some false))))) else (some false)))))) else (some false))) = some r := H
    have Fa11 := Aside0.mk Fa110
    clear Fa110
    replace H := Option.bind_eq_some_iff.mp H
    obtain ⟨t28, Fa120, H⟩ := H
    replace H : (if t28 = true then (if t25 < 0 then (some false) else ((laws_markIntS.f k t15 1).bind fun b15 => ((laws_heldIntS.f k b15.2 1).bind fun t33 => (if t33 < 0 then (some false) else (if t33 = b15.1 then ((laws_toFlash.f k l0_0).bind fun t35 => ((impl_FreeBlocks.f k t35).bind fun t38 => ((laws_eqIntS.f k t38 t8).bind fun t41 => (if t41 = true then ((laws_heldIntS.f k b15.2 1).bind fun t43 => (if t43 < 0 then (some false) else (if t43 = b15.1 then (some true) else (some false)))) else (some false))))) else (some false)))))) else (some false)) = some r := H
    have Fa12 := Aside0.mk Fa120
    clear Fa120
    have cd13 : t28 = true := Classical.byContradiction fun hc_ => by rw [if_neg hc_] at H; exact absurd ((Option.some.inj H).trans hT.out) (by decide)
    rw [if_pos cd13] at H
    subst cd13
    replace H : (if t25 < 0 then (some false) else ((laws_markIntS.f k t15 1).bind fun b15 => ((laws_heldIntS.f k b15.2 1).bind fun t33 => (if t33 < 0 then (some false) else (if t33 = b15.1 then ((laws_toFlash.f k l0_0).bind fun t35 => ((impl_FreeBlocks.f k t35).bind fun t38 => ((laws_eqIntS.f k t38 t8).bind fun t41 => (if t41 = true then ((laws_heldIntS.f k b15.2 1).bind fun t43 => (if t43 < 0 then (some false) else (if t43 = b15.1 then (some true) else (some false)))) else (some false))))) else (some false)))))) = some r := H
    have cd14 : ¬ (t25 < 0) := fun hc_ => by rw [if_pos hc_] at H; exact absurd ((Option.some.inj H).trans hT.out) (by decide)
    rw [if_neg cd14] at H
    have cd14b0 : decide (t25 < 0) = false := decide_eq_false cd14
    clear cd14
    replace H := Option.bind_eq_some_iff.mp H
    obtain ⟨⟨t30, t31⟩, Fa150, H⟩ := H
    replace H : ((laws_heldIntS.f k t31 1).bind fun t33 => (if t33 < 0 then (some false) else (if t33 = t30 then ((laws_toFlash.f k l0_0).bind fun t35 => ((impl_FreeBlocks.f k t35).bind fun t38 => ((laws_eqIntS.f k t38 t8).bind fun t41 => (if t41 = true then ((laws_heldIntS.f k t31 1).bind fun t43 => (if t43 < 0 then (some false) else (if t43 = t30 then (some true) else (some false)))) else (some false))))) else (some false)))) = some r := H
    have Fa15 := Aside0.mk Fa150
    clear Fa150
    replace H := Option.bind_eq_some_iff.mp H
    obtain ⟨t33, Fa160, H⟩ := H
    replace H : (if t33 < 0 then (some false) else (if t33 = t30 then ((laws_toFlash.f k l0_0).bind fun t35 => ((impl_FreeBlocks.f k t35).bind fun t38 => ((laws_eqIntS.f k t38 t8).bind fun t41 => (if t41 = true then ((laws_heldIntS.f k t31 1).bind fun t43 => (if t43 < 0 then (some false) else (if t43 = t30 then (some true) else (some false)))) else (some false))))) else (some false))) = some r := H
    have Fa16 := Aside0.mk Fa160
    clear Fa160
    have cd17 : ¬ (t33 < 0) := fun hc_ => by rw [if_pos hc_] at H; exact absurd ((Option.some.inj H).trans hT.out) (by decide)
    rw [if_neg cd17] at H
    have cd17b0 : decide (t33 < 0) = false := decide_eq_false cd17
    clear cd17
    have cd18 : t33 = t30 := Classical.byContradiction fun hc_ => by rw [if_neg hc_] at H; exact absurd ((Option.some.inj H).trans hT.out) (by decide)
    rw [if_pos cd18] at H
    have cd18b0 : (t33 == t30) = true := beq_iff_eq.mpr cd18
    have cd18b1 : (t33 != t30) = false := bne_eq_false_iff_eq.mpr cd18
    clear cd18
    replace H := Option.bind_eq_some_iff.mp H
    obtain ⟨t35, Fa190, H⟩ := H
    replace H : ((impl_FreeBlocks.f k t35).bind fun t38 => ((laws_eqIntS.f k t38 t8).bind fun t41 => (if t41 = true then ((laws_heldIntS.f k t31 1).bind fun t43 => (if t43 < 0 then (some false) else (if t43 = t30 then (some true) else (some false)))) else (some false)))) = some r := H
    have Fa19 := Aside0.mk Fa190
    clear Fa190
    replace H := Option.bind_eq_some_iff.mp H
    obtain ⟨t38, Fa200, H⟩ := H
    replace H : ((laws_eqIntS.f k t38 t8).bind fun t41 => (if t41 = true then ((laws_heldIntS.f k t31 1).bind fun t43 => (if t43 < 0 then (some false) else (if t43 = t30 then (some true) else (some false)))) else (some false))) = some r := H
    have Fa20 := Aside0.mk Fa200
    clear Fa200
    replace H := Option.bind_eq_some_iff.mp H
    obtain ⟨t41, Fa210, H⟩ := H
    replace H : (if t41 = true then ((laws_heldIntS.f k t31 1).bind fun t43 => (if t43 < 0 then (some false) else (if t43 = t30 then (some true) else (some false)))) else (some false)) = some r := H
    have Fa21 := Aside0.mk Fa210
    clear Fa210
    have cd22 : t41 = true := Classical.byContradiction fun hc_ => by rw [if_neg hc_] at H; exact absurd ((Option.some.inj H).trans hT.out) (by decide)
    rw [if_pos cd22] at H
    subst cd22
    replace H : ((laws_heldIntS.f k t31 1).bind fun t43 => (if t43 < 0 then (some false) else (if t43 = t30 then (some true) else (some false)))) = some r := H
    replace H := Option.bind_eq_some_iff.mp H
    obtain ⟨t43, Fa230, H⟩ := H
    replace H : (if t43 < 0 then (some false) else (if t43 = t30 then (some true) else (some false))) = some r := H
    have Fa23 := Aside0.mk Fa230
    clear Fa230
    have cd24 : ¬ (t43 < 0) := fun hc_ => by rw [if_pos hc_] at H; exact absurd ((Option.some.inj H).trans hT.out) (by decide)
    rw [if_neg cd24] at H
    have cd24b0 : decide (t43 < 0) = false := decide_eq_false cd24
    clear cd24
    have cd25 : t43 = t30 := Classical.byContradiction fun hc_ => by rw [if_neg hc_] at H; exact absurd ((Option.some.inj H).trans hT.out) (by decide)
    rw [if_pos cd25] at H
    have cd25b0 : (t43 == t30) = true := beq_iff_eq.mpr cd25
    have cd25b1 : (t43 != t30) = false := bne_eq_false_iff_eq.mpr cd25
    clear cd25
    obtain rfl := Option.some.inj H
    go_enter Try.func6, Try.ntmps6
    go_wp2_with (first | ((with_reducible refine gate_dst (N := 1) rfl ?_); refine box_event ?hg (N := 1) ?hd (cs := #[.slice A0_0 l0_0.length c0_0]) (t := 54) ?hr ?_; (case hd => rfl); (case hg => rfl); (case hr => first | (go_simp; done) | (go_simp; rfl)); intro gb1 hg w7 hbox hb; have GBK1 := Aside0.mk (show gb1 = w.heap.size ∧ gb1 < w7.heap.size from ⟨hg, blk_lt hbox⟩); have GW1 := Aside0.mk (show w.heap.size ≤ gb1 by have q_ := below_size HB.out; rw [hg]; exact q_); have BK1 := Aside0.mk hbox; replace HB := Aside0.mk (below_step HB.out hb); replace HL := Aside0.mk (And.intro HL.out (below_size hb)); clear hb hbox hg; have hcz8 : w7.cell? ⟨gb1, 0, none⟩ = some (.slice A0_0 l0_0.length c0_0) := (blk_cell BK1.out 0).trans rfl; have hfz9 := blk_frozen BK1.out 0) | ((with_reducible refine gate_callee (f := 31) rfl ?_); refine goesL_ (some 13) rfl rfl Try.func31 (by kernel_rfl) rfl #[.agg #[.slice A0_0 l0_0.length c0_0], .int .i64 1048576] rfl (by (try simp only [List.map_toArray, List.map_cons, List.map_nil]); first | done | rfl | (simp only [List.length_drop, List.length_take]; rfl)) ?_; (with_reducible refine (laws_szFlash.calls k _ _ l0_0 1048576 t3 _ ?side1 ?side2 Fa0.out).mono ?_); (case side1 => exact Kd.C_below HR0_0.out HB.out); (case side2 => exact HC0_0.out); rintro e w10 ⟨rfl, hb⟩; refine ⟨_, rfl, ?_⟩; replace BK1 := Aside0.mk (blk_below BK1.out hb); replace HB := Aside0.mk (below_step HB.out hb); replace HL := Aside0.mk (And.intro HL.out (below_size hb)); clear hb; clear hcz8 hfz9; have hcz11 : w10.cell? ⟨gb1, 0, none⟩ = some (.slice A0_0 l0_0.length c0_0) := (blk_cell BK1.out 0).trans rfl; have hfz12 := blk_frozen BK1.out 0) | ((with_reducible refine gate_callee (f := 33) rfl ?_); refine goesL_ (some 17) rfl rfl Try.func33 (by kernel_rfl) rfl #[.agg #[.slice A0_0 l0_0.length c0_0]] rfl (by (try simp only [List.map_toArray, List.map_cons, List.map_nil]); first | done | rfl | (simp only [List.length_drop, List.length_take]; rfl)) ?_; (with_reducible refine (laws_toFlash.calls k _ _ l0_0 t5 _ ?side1 ?side2 Fa2.out).mono ?_); (case side1 => exact Kd.C_below HR0_0.out HB.out); (case side2 => exact HC0_0.out); rintro e w13 ⟨v6, rfl, ho0, hb⟩; refine ⟨_, rfl, ?_⟩; have HZ6 := Aside0.mk (Kd.S_lower (Kd.S_mono (ok' := fun k_ => (w10.heap.size ≤ k_ ∧ k_ < w13.heap.size)) (Kd.S_bound ho0) (fun k_ hk_ => ⟨hk_.2.1, hk_.2.2.1⟩)) (below_size HB.out)); clear ho0; replace BK1 := Aside0.mk (blk_below BK1.out hb); replace HB := Aside0.mk (below_step HB.out hb); replace HL := Aside0.mk (And.intro HL.out (below_size hb)); clear hb; obtain ⟨A6, c6, e6⟩ := Kd.S_slice HZ6.out; subst e6; clear hcz11 hfz12; have hcz14 : w13.cell? ⟨gb1, 0, none⟩ = some (.slice A0_0 l0_0.length c0_0) := (blk_cell BK1.out 0).trans rfl; have hfz15 := blk_frozen BK1.out 0) | ((with_reducible refine gate_callee (f := 32) rfl ?_); refine goesL_ (some 18) rfl rfl Try.func32 (by kernel_rfl) rfl #[.agg #[.slice A6 t5.length c6]] rfl (by (try simp only [List.map_toArray, List.map_cons, List.map_nil]); first | done | rfl | (simp only [List.length_drop, List.length_take]; rfl)) ?_; (with_reducible refine (spec_FreeBlocks.calls k _ _ t5 t8 _ ?side1 ?side2 Fa3.out).mono ?_); (case side1 => exact (Kd.S_reads' HZ6.out).2.2); (case side2 => exact (Kd.S_reads' HZ6.out).2.1); rintro e w16 ⟨v9, rfl, ho0, hb⟩; refine ⟨_, rfl, ?_⟩; have HZ9 := Aside0.mk (Kd.R_lower (Kd.R_mono (ok' := fun k_ => (w13.heap.size ≤ k_ ∧ k_ < w16.heap.size)) (Kd.R_bound ho0) (fun k_ hk_ => ⟨hk_.2.1, hk_.2.2.1⟩)) (below_size HB.out)); clear ho0; replace HZ6 := Aside0.mk (Kd.S_below HZ6.out hb); replace BK1 := Aside0.mk (blk_below BK1.out hb); replace HB := Aside0.mk (below_step HB.out hb); replace HL := Aside0.mk (And.intro HL.out (below_size hb)); clear hb; obtain ⟨A9, c9, e9⟩ := Kd.R_slice HZ9.out; subst e9; clear hcz14 hfz15; have hcz17 : w16.cell? ⟨gb1, 0, none⟩ = some (.slice A0_0 l0_0.length c0_0) := (blk_cell BK1.out 0).trans rfl; have hfz18 := blk_frozen BK1.out 0) | ((with_reducible refine gate_callee (f := 33) rfl ?_); refine goesL_ (some 20) rfl rfl Try.func33 (by kernel_rfl) rfl #[.agg #[.slice A0_0 l0_0.length c0_0]] rfl (by (try simp only [List.map_toArray, List.map_cons, List.map_nil]); first | done | rfl | (simp only [List.length_drop, List.length_take]; rfl)) ?_; (with_reducible refine (laws_toFlash.calls k _ _ l0_0 t11 _ ?side1 ?side2 Fa4.out).mono ?_); (case side1 => exact Kd.C_below HR0_0.out HB.out); (case side2 => exact HC0_0.out); rintro e w19 ⟨v12, rfl, ho0, hb⟩; refine ⟨_, rfl, ?_⟩; have HZ12 := Aside0.mk (Kd.S_lower (Kd.S_mono (ok' := fun k_ => (w16.heap.size ≤ k_ ∧ k_ < w19.heap.size)) (Kd.S_bound ho0) (fun k_ hk_ => ⟨hk_.2.1, hk_.2.2.1⟩)) (below_size HB.out)); clear ho0; replace HZ6 := Aside0.mk (Kd.S_below HZ6.out hb); replace HZ9 := Aside0.mk (Kd.R_below HZ9.out hb); replace BK1 := Aside0.mk (blk_below BK1.out hb); replace HB := Aside0.mk (below_step HB.out hb); replace HL := Aside0.mk (And.intro HL.out (below_size hb)); clear hb; obtain ⟨A12, c12, e12⟩ := Kd.S_slice HZ12.out; subst e12; clear hcz17 hfz18; have hcz20 : w19.cell? ⟨gb1, 0, none⟩ = some (.slice A0_0 l0_0.length c0_0) := (blk_cell BK1.out 0).trans rfl; have hfz21 := blk_frozen BK1.out 0) | ((with_reducible refine gate_dst (N := 5) rfl ?_); refine box_event ?hg (N := 5) ?hd (cs := #[.slice none 0 0]) (t := 59) ?hr ?_; (case hd => rfl); (case hg => rfl); (case hr => first | (go_simp; done) | (go_simp; rfl)); intro gb13 hg w22 hbox hb; replace HZ6 := Aside0.mk (Kd.S_below HZ6.out hb); replace HZ9 := Aside0.mk (Kd.R_below HZ9.out hb); replace HZ12 := Aside0.mk (Kd.S_below HZ12.out hb); replace BK1 := Aside0.mk (blk_below BK1.out hb); have GBK13 := Aside0.mk (show gb13 = w19.heap.size ∧ gb13 < w22.heap.size from ⟨hg, blk_lt hbox⟩); have GW13 := Aside0.mk (show w.heap.size ≤ gb13 by have q_ := below_size HB.out; rw [hg]; exact q_); have BK13 := Aside0.mk hbox; replace HB := Aside0.mk (below_step HB.out hb); replace HL := Aside0.mk (And.intro HL.out (below_size hb)); clear hb hbox hg; clear hcz20 hfz21; have hcz23 : w22.cell? ⟨gb1, 0, none⟩ = some (.slice A0_0 l0_0.length c0_0) := (blk_cell BK1.out 0).trans rfl; have hfz24 := blk_frozen BK1.out 0; have hcz25 : w22.cell? ⟨gb13, 0, none⟩ = some (.slice none 0 0) := (blk_cell BK13.out 0).trans rfl; have hfz26 := blk_frozen BK13.out 0) | ((with_reducible refine gate_store (t := 59) (p := 5) rfl ?_); refine store_event (t := 59) (p := 5) (v := ?vo_) (w1 := (w22.setCell ⟨gb13, 0, none⟩ (.slice A12 t11.length c12))) ?hg ?ho ?hn ?hr ?_; (case ho => rfl); (case hg => rfl); (case hn => rfl); (case hr => first | (go_simp; done) | (go_simp; rfl)); intro w27 hw; have hk : Kept w22 w27 (fun k_ => k_ = gb13) := (by rw [hw]; exact (Kept.setCell (Kept.refl w22 (fun k_ => k_ = gb13)) (p := ⟨gb13, 0, none⟩) (.inl rfl) (.slice A12 t11.length c12))); have g0_ := GBK13.out; replace HZ6 := Aside0.mk (Kd.S_kept HZ6.out hk (fun k_ (hk_ : (w10.heap.size ≤ k_ ∧ k_ < w13.heap.size)) (hs_ : k_ = gb13) => by have q_ := HL.out; omega)); replace HZ9 := Aside0.mk (Kd.R_kept HZ9.out hk (fun k_ (hk_ : (w13.heap.size ≤ k_ ∧ k_ < w16.heap.size)) (hs_ : k_ = gb13) => by have q_ := HL.out; omega)); replace HZ12 := Aside0.mk (Kd.S_kept HZ12.out hk (fun k_ (hk_ : (w16.heap.size ≤ k_ ∧ k_ < w19.heap.size)) (hs_ : k_ = gb13) => by have q_ := HL.out; omega)); replace BK1 := Aside0.mk (blk_kept BK1.out hk (fun hs_ => by have q_ := HL.out; have g_ := GBK1.out; have hs2_ : gb1 = gb13 := hs_; omega)); clear g0_; replace BK13 := Aside0.mk (show w27.heap[gb13]? = some (.cells #[.slice A12 t11.length c12] 59 (0, 0)) from (by rw [hw]; exact (blk_put (cs := #[.slice none 0 0]) (cs' := #[.slice A12 t11.length c12]) BK13.out 0 _ rfl))); replace HB := Aside0.mk (show Below w.heap.size w w27 from (by rw [hw]; exact (below_set HB.out GW13.out))); replace HL := Aside0.mk (And.intro HL.out hk.1); clear hk hw; clear hcz23 hfz24 hcz25 hfz26; have hcz28 : w27.cell? ⟨gb1, 0, none⟩ = some (.slice A0_0 l0_0.length c0_0) := (blk_cell BK1.out 0).trans rfl; have hfz29 := blk_frozen BK1.out 0; have hcz30 : w27.cell? ⟨gb13, 0, none⟩ = some (.slice A12 t11.length c12) := (blk_cell BK13.out 0).trans rfl; have hfz31 := blk_frozen BK13.out 0) | ((with_reducible refine gate_callee (f := 34) rfl ?_); refine goesL_ (some 22) rfl rfl Try.func34 (by kernel_rfl) rfl #[.agg #[.slice A12 t11.length c12]] rfl (by (try simp only [List.map_toArray, List.map_cons, List.map_nil]); first | done | rfl | (simp only [List.length_drop, List.length_take]; rfl)) ?_; (with_reducible refine (impl_FreeBlocks.calls k _ _ t11 t15 _ ?side1 ?side2 Fa5.out).mono ?_); (case side1 => exact (Kd.S_reads' HZ12.out).2.2); (case side2 => exact (Kd.S_reads' HZ12.out).2.1); rintro e w32 ⟨v16, rfl, ho0, hb⟩; refine ⟨_, rfl, ?_⟩; have HZ16 := Aside0.mk (Kd.R_lower (Kd.R_mono (ok' := fun k_ => (w27.heap.size ≤ k_ ∧ k_ < w32.heap.size)) (Kd.R_bound ho0) (fun k_ hk_ => ⟨hk_.2.1, hk_.2.2.1⟩)) (below_size HB.out)); clear ho0; replace HZ6 := Aside0.mk (Kd.S_below HZ6.out hb); replace HZ9 := Aside0.mk (Kd.R_below HZ9.out hb); replace HZ12 := Aside0.mk (Kd.S_below HZ12.out hb); replace BK1 := Aside0.mk (blk_below BK1.out hb); replace BK13 := Aside0.mk (blk_below BK13.out hb); replace HB := Aside0.mk (below_step HB.out hb); replace HL := Aside0.mk (And.intro HL.out (below_size hb)); clear hb; obtain ⟨A16, c16, e16⟩ := Kd.R_slice HZ16.out; subst e16; clear hcz28 hfz29 hcz30 hfz31; have hcz33 : w32.cell? ⟨gb1, 0, none⟩ = some (.slice A0_0 l0_0.length c0_0) := (blk_cell BK1.out 0).trans rfl; have hfz34 := blk_frozen BK1.out 0; have hcz35 : w32.cell? ⟨gb13, 0, none⟩ = some (.slice A12 t11.length c12) := (blk_cell BK13.out 0).trans rfl; have hfz36 := blk_frozen BK13.out 0) | ((with_reducible refine gate_callee (f := 26) rfl ?_); refine goesL_ (some 25) rfl rfl Try.func26 (by kernel_rfl) rfl #[.slice A16 t15.length c16, .slice A9 t8.length c9] rfl (by (try simp only [List.map_toArray, List.map_cons, List.map_nil]); first | done | rfl | (simp only [List.length_drop, List.length_take]; rfl)) ?_; (with_reducible refine (laws_eqIntS.calls k _ _ t15 _ _ t8 true _ ?side1 ?side2 ?side3 ?side4 Fa6.out).mono ?_); (case side1 => exact (Kd.R_reads' HZ16.out).2.2); (case side2 => exact (Kd.R_reads' HZ16.out).2.1); (case side3 => exact (Kd.R_reads' HZ9.out).2.2); (case side4 => exact (Kd.R_reads' HZ9.out).2.1); rintro e w37 ⟨rfl, hd_⟩; refine ⟨_, rfl, ?_⟩; have hb := hd_.below; clear hd_; replace HZ6 := Aside0.mk (Kd.S_below HZ6.out hb); replace HZ9 := Aside0.mk (Kd.R_below HZ9.out hb); replace HZ12 := Aside0.mk (Kd.S_below HZ12.out hb); replace HZ16 := Aside0.mk (Kd.R_below HZ16.out hb); replace BK1 := Aside0.mk (blk_below BK1.out hb); replace BK13 := Aside0.mk (blk_below BK13.out hb); replace HB := Aside0.mk (below_step HB.out hb); replace HL := Aside0.mk (And.intro HL.out (below_size hb)); clear hb; clear hcz33 hfz34 hcz35 hfz36; have hcz38 : w37.cell? ⟨gb1, 0, none⟩ = some (.slice A0_0 l0_0.length c0_0) := (blk_cell BK1.out 0).trans rfl; have hfz39 := blk_frozen BK1.out 0; have hcz40 : w37.cell? ⟨gb13, 0, none⟩ = some (.slice A12 t11.length c12) := (blk_cell BK13.out 0).trans rfl; have hfz41 := blk_frozen BK13.out 0))
    replace HZ6 := Aside0.mk (Kd.S_drew HZ6.out)
    replace HZ9 := Aside0.mk (Kd.R_drew HZ9.out)
    replace HZ12 := Aside0.mk (Kd.S_drew HZ12.out)
    replace HZ16 := Aside0.mk (Kd.R_drew HZ16.out)
    replace BK1 := Aside0.mk (blk_drew BK1.out)
    replace BK13 := Aside0.mk (blk_drew BK13.out)
    replace HB := Aside0.mk (below_drew1 HB.out)
    replace HL := Aside0.mk (And.intro HL.out (show w37.heap.size ≤ w37.drew.heap.size from Nat.le_refl _))
    clear hcz38 hfz39 hcz40 hfz41
    refine start_ (n := 5) (S := fun w' => w'.cell? ⟨gb13, 0, none⟩ = some (.slice A12 t11.length c12) ∧ w'.cell? ⟨gb1, 0, none⟩ = some (.slice A0_0 l0_0.length c0_0)) (ds := []) #[false, false, false, false, false] (by kernel_rfl) rfl rfl ⟨(blk_cell BK13.out 0).trans rfl, (blk_cell BK1.out 0).trans rfl⟩ (fun hHeld => ?_)
    generalize w37.drew = w42 at HZ6 HZ9 HZ12 HZ16 BK1 BK13 HB HL hHeld ⊢
    refine take_ (i := 0) (N := some 27) (v := ?_) (a' := ?_) #[true, false, false, false, false] rfl rfl (by kernel_rfl) (fun _ _ _ h => h) (Or.inl ⟨by rfl, ?_⟩) hHeld ?_ ?_
    rotate_left
    · rintro w' ⟨s0, s1⟩
      go_simp
      with_reducible rfl
    rotate_left
    · simp only [Act.put, List.setIfInBounds_toArray, List.set_cons_zero, List.set_cons_succ, i64_w, i32_w]
      rfl
    refine take_ (i := 1) (N := some 28) (v := ?_) (a' := ?_) #[true, true, false, false, false] rfl rfl (by kernel_rfl) (fun _ _ _ h => h) (Or.inl ⟨by rfl, ?_⟩) hHeld ?_ ?_
    rotate_left
    · rintro w' ⟨s0, s1⟩
      go_simp
      with_reducible rfl
    rotate_left
    · simp only [Act.put, List.setIfInBounds_toArray, List.set_cons_zero, List.set_cons_succ, i64_w, i32_w]
      rfl
    refine one_ (i := 2) (N := some 29) #[true, true, true, false, false] rfl rfl (by kernel_rfl) (by decide) (fun K hK => ?_)
    refine goes_ Try.func33 (by kernel_rfl) rfl #[.agg #[.slice A0_0 l0_0.length c0_0]] (by rfl) rfl rfl (by (try simp only [List.map_toArray, List.map_cons, List.map_nil]); first | done | rfl | (simp only [List.length_drop, List.length_take]; rfl)) ?_
    (with_reducible refine (laws_toFlash.calls k _ _ l0_0 t20 _ ?side1 ?side2 Fa8.out).mono ?_)
    (case side1 => exact Kd.C_below HR0_0.out HB.out)
    (case side2 => exact HC0_0.out)
    rintro e w43 ⟨v21, rfl, ho0, hb⟩
    refine ⟨_, rfl, ?_⟩
    have HZ21 := Aside0.mk (Kd.S_lower (Kd.S_mono (ok' := fun k_ => (w42.heap.size ≤ k_ ∧ k_ < w43.heap.size)) (Kd.S_bound ho0) (fun k_ hk_ => ⟨hk_.2.1, hk_.2.2.1⟩)) (below_size HB.out))
    clear ho0
    replace HZ6 := Aside0.mk (Kd.S_below HZ6.out hb)
    replace HZ9 := Aside0.mk (Kd.R_below HZ9.out hb)
    replace HZ12 := Aside0.mk (Kd.S_below HZ12.out hb)
    replace HZ16 := Aside0.mk (Kd.R_below HZ16.out hb)
    replace BK1 := Aside0.mk (blk_below BK1.out hb)
    replace BK13 := Aside0.mk (blk_below BK13.out hb)
    replace HB := Aside0.mk (below_step HB.out hb)
    replace HL := Aside0.mk (And.intro HL.out (below_size hb))
    clear hb
    obtain ⟨A21, c21, e21⟩ := Kd.S_slice HZ21.out
    subst e21
    refine hK.out _ _ ⟨(blk_cell BK13.out 0).trans rfl, (blk_cell BK1.out 0).trans rfl⟩ (fun hHeld => ?_)
    clear hK K
    refine norm_ (a' := ?_) ?_ ?_
    rotate_left
    · show Act.put _ (some 29) _ = _
      simp only [Act.put, List.setIfInBounds_toArray, List.set_cons_zero, List.set_cons_succ, i64_w, i32_w]
      rfl
    refine one_ (i := 3) (N := some 30) #[true, true, true, true, false] rfl rfl (by kernel_rfl) (by decide) (fun K hK => ?_)
    refine goes_ Try.func35 (by kernel_rfl) rfl #[.agg #[.slice A12 t11.length c12], .agg #[.slice A21 t20.length c21]] (by rfl) rfl rfl (by (try simp only [List.map_toArray, List.map_cons, List.map_nil]); first | done | rfl | (simp only [List.length_drop, List.length_take]; rfl)) ?_
    (with_reducible refine (laws_eqFlash.calls k _ _ t11 _ _ t20 true _ ?side1 ?side2 ?side3 ?side4 Fa9.out).mono ?_)
    (case side1 => exact (Kd.S_reads' HZ12.out).2.2)
    (case side2 => exact (Kd.S_reads' HZ12.out).2.1)
    (case side3 => exact (Kd.S_reads' HZ21.out).2.2)
    (case side4 => exact (Kd.S_reads' HZ21.out).2.1)
    rintro e w44 ⟨rfl, hb⟩
    refine ⟨_, rfl, ?_⟩
    replace HZ6 := Aside0.mk (Kd.S_below HZ6.out hb)
    replace HZ9 := Aside0.mk (Kd.R_below HZ9.out hb)
    replace HZ12 := Aside0.mk (Kd.S_below HZ12.out hb)
    replace HZ16 := Aside0.mk (Kd.R_below HZ16.out hb)
    replace HZ21 := Aside0.mk (Kd.S_below HZ21.out hb)
    replace BK1 := Aside0.mk (blk_below BK1.out hb)
    replace BK13 := Aside0.mk (blk_below BK13.out hb)
    replace HB := Aside0.mk (below_step HB.out hb)
    replace HL := Aside0.mk (And.intro HL.out (below_size hb))
    clear hb
    refine hK.out _ _ ⟨(blk_cell BK13.out 0).trans rfl, (blk_cell BK1.out 0).trans rfl⟩ (fun hHeld => ?_)
    clear hK K
    refine norm_ (a' := ?_) ?_ ?_
    rotate_left
    · show Act.put _ (some 30) _ = _
      simp only [Act.put, List.setIfInBounds_toArray, List.set_cons_zero, List.set_cons_succ, i64_w, i32_w]
      rfl
    refine pure_ (i := 4) (N := some 31) (v := ?_) (a' := ?_) #[true, true, true, true, true] rfl rfl (by kernel_rfl) (fun _ _ _ h => h) (Or.inl ⟨by rfl, ?_⟩) ?_ ?_
    rotate_left
    · intro w'
      go_simp
      with_reducible rfl
    rotate_left
    · simp only [Act.put, List.setIfInBounds_toArray, List.set_cons_zero, List.set_cons_succ, i64_w, i32_w]
      rfl
    refine done_ (by kernel_rfl) ?_
    have hcz45 : w44.cell? ⟨gb1, 0, none⟩ = some (.slice A0_0 l0_0.length c0_0) := (blk_cell BK1.out 0).trans rfl
    have hfz46 := blk_frozen BK1.out 0
    have hcz47 : w44.cell? ⟨gb13, 0, none⟩ = some (.slice A12 t11.length c12) := (blk_cell BK13.out 0).trans rfl
    have hfz48 := blk_frozen BK13.out 0
    go_wp2_with (first | ((with_reducible refine gate_callee (f := 36) rfl ?_); refine goesL_ (some 34) rfl rfl Try.func36 (by kernel_rfl) rfl #[.agg #[.slice A12 t11.length c12], .int .i64 1] rfl (by (try simp only [List.map_toArray, List.map_cons, List.map_nil]); first | done | rfl | (simp only [List.length_drop, List.length_take]; rfl)) ?_; (with_reducible refine (laws_markFlash.calls k (fun k_ => (w16.heap.size ≤ k_ ∧ k_ < w19.heap.size)) _ t11 1 t25 t26 w _ HB.out HZ12.out Fa11.out).mono ?_); rintro e w49 ⟨rfl, hy0, hb0, hk⟩; refine ⟨_, rfl, ?_⟩; have ny0_ := Aside0.mk (Kd.S_mono (ok' := fun k_ => ((w16.heap.size ≤ k_ ∧ k_ < w19.heap.size) ∨ (w44.heap.size ≤ k_ ∧ k_ < w49.heap.size))) (Kd.S_bound hy0) (fun k_ hk_ => hk_.1.imp id (fun h_ => ⟨h_, hk_.2.2.1⟩))); replace HZ6 := Aside0.mk (Kd.S_kept HZ6.out hk (fun k_ (hk_ : (w10.heap.size ≤ k_ ∧ k_ < w13.heap.size)) (hs_ : (w16.heap.size ≤ k_ ∧ k_ < w19.heap.size)) => by have q_ := HL.out; omega)); replace HZ9 := Aside0.mk (Kd.R_kept HZ9.out hk (fun k_ (hk_ : (w13.heap.size ≤ k_ ∧ k_ < w16.heap.size)) (hs_ : (w16.heap.size ≤ k_ ∧ k_ < w19.heap.size)) => by have q_ := HL.out; omega)); replace HZ16 := Aside0.mk (Kd.R_kept HZ16.out hk (fun k_ (hk_ : (w27.heap.size ≤ k_ ∧ k_ < w32.heap.size)) (hs_ : (w16.heap.size ≤ k_ ∧ k_ < w19.heap.size)) => by have q_ := HL.out; omega)); replace HZ21 := Aside0.mk (Kd.S_kept HZ21.out hk (fun k_ (hk_ : (w42.heap.size ≤ k_ ∧ k_ < w43.heap.size)) (hs_ : (w16.heap.size ≤ k_ ∧ k_ < w19.heap.size)) => by have q_ := HL.out; omega)); replace BK1 := Aside0.mk (blk_kept BK1.out hk (fun hs_ => by have q_ := HL.out; have g_ := GBK1.out; have hs2_ : (w16.heap.size ≤ gb1 ∧ gb1 < w19.heap.size) := hs_; omega)); replace BK13 := Aside0.mk (blk_kept BK13.out hk (fun hs_ => by have q_ := HL.out; have g_ := GBK13.out; have hs2_ : (w16.heap.size ≤ gb13 ∧ gb13 < w19.heap.size) := hs_; omega)); replace HZ12 := ny0_; clear ny0_; replace HB := Aside0.mk hb0; replace HL := Aside0.mk (And.intro HL.out hk.1); clear hb0 hk hy0; clear hcz45 hfz46 hcz47 hfz48; have hcz50 : w49.cell? ⟨gb1, 0, none⟩ = some (.slice A0_0 l0_0.length c0_0) := (blk_cell BK1.out 0).trans rfl; have hfz51 := blk_frozen BK1.out 0; have hcz52 : w49.cell? ⟨gb13, 0, none⟩ = some (.slice A12 t11.length c12) := (blk_cell BK13.out 0).trans rfl; have hfz53 := blk_frozen BK13.out 0) | (go_at_call 26; (with_reducible show Calls _ _ _ w49 _); (with_reducible refine (laws_eqIntS.calls k _ _ t15 _ _ t8 true _ ?side1 ?side2 ?side3 ?side4 Fa12.out).mono ?_); (case side1 => exact (Kd.R_reads' HZ16.out).2.2); (case side2 => exact (Kd.R_reads' HZ16.out).2.1); (case side3 => exact (Kd.R_reads' HZ9.out).2.2); (case side4 => exact (Kd.R_reads' HZ9.out).2.1); rintro e w54 ⟨rfl, hd_⟩; have hb := hd_.below; clear hd_; replace HZ6 := Aside0.mk (Kd.S_below HZ6.out hb); replace HZ9 := Aside0.mk (Kd.R_below HZ9.out hb); replace HZ12 := Aside0.mk (Kd.S_below HZ12.out hb); replace HZ16 := Aside0.mk (Kd.R_below HZ16.out hb); replace HZ21 := Aside0.mk (Kd.S_below HZ21.out hb); replace BK1 := Aside0.mk (blk_below BK1.out hb); replace BK13 := Aside0.mk (blk_below BK13.out hb); replace HB := Aside0.mk (below_step HB.out hb); replace HL := Aside0.mk (And.intro HL.out (below_size hb)); clear hb; clear hcz50 hfz51 hcz52 hfz53; have hcz55 : w54.cell? ⟨gb1, 0, none⟩ = some (.slice A0_0 l0_0.length c0_0) := (blk_cell BK1.out 0).trans rfl; have hfz56 := blk_frozen BK1.out 0; have hcz57 : w54.cell? ⟨gb13, 0, none⟩ = some (.slice A12 t11.length c12) := (blk_cell BK13.out 0).trans rfl; have hfz58 := blk_frozen BK13.out 0) | ((with_reducible refine gate_callee (f := 29) rfl ?_); refine goesL_ (some 45) rfl rfl Try.func29 (by kernel_rfl) rfl #[.slice A16 t15.length c16, .int .i64 1] rfl (by (try simp only [List.map_toArray, List.map_cons, List.map_nil]); first | done | rfl | (simp only [List.length_drop, List.length_take]; rfl)) ?_; (with_reducible refine (laws_markIntS.calls k (fun k_ => (w27.heap.size ≤ k_ ∧ k_ < w32.heap.size)) _ t15 1 t30 t31 w _ HB.out HZ16.out Fa15.out).mono ?_); rintro e w59 ⟨rfl, hy0, hb0, hk⟩; refine ⟨_, rfl, ?_⟩; have ny0_ := Aside0.mk (Kd.R_mono (ok' := fun k_ => ((w27.heap.size ≤ k_ ∧ k_ < w32.heap.size) ∨ (w54.heap.size ≤ k_ ∧ k_ < w59.heap.size))) (Kd.R_bound hy0) (fun k_ hk_ => hk_.1.imp id (fun h_ => ⟨h_, hk_.2.2.1⟩))); replace HZ6 := Aside0.mk (Kd.S_kept HZ6.out hk (fun k_ (hk_ : (w10.heap.size ≤ k_ ∧ k_ < w13.heap.size)) (hs_ : (w27.heap.size ≤ k_ ∧ k_ < w32.heap.size)) => by have q_ := HL.out; omega)); replace HZ9 := Aside0.mk (Kd.R_kept HZ9.out hk (fun k_ (hk_ : (w13.heap.size ≤ k_ ∧ k_ < w16.heap.size)) (hs_ : (w27.heap.size ≤ k_ ∧ k_ < w32.heap.size)) => by have q_ := HL.out; omega)); replace HZ12 := Aside0.mk (Kd.S_kept HZ12.out hk (fun k_ (hk_ : ((w16.heap.size ≤ k_ ∧ k_ < w19.heap.size) ∨ (w44.heap.size ≤ k_ ∧ k_ < w49.heap.size))) (hs_ : (w27.heap.size ≤ k_ ∧ k_ < w32.heap.size)) => by have q_ := HL.out; omega)); replace HZ21 := Aside0.mk (Kd.S_kept HZ21.out hk (fun k_ (hk_ : (w42.heap.size ≤ k_ ∧ k_ < w43.heap.size)) (hs_ : (w27.heap.size ≤ k_ ∧ k_ < w32.heap.size)) => by have q_ := HL.out; omega)); replace BK1 := Aside0.mk (blk_kept BK1.out hk (fun hs_ => by have q_ := HL.out; have g_ := GBK1.out; have hs2_ : (w27.heap.size ≤ gb1 ∧ gb1 < w32.heap.size) := hs_; omega)); replace BK13 := Aside0.mk (blk_kept BK13.out hk (fun hs_ => by have q_ := HL.out; have g_ := GBK13.out; have hs2_ : (w27.heap.size ≤ gb13 ∧ gb13 < w32.heap.size) := hs_; omega)); replace HZ16 := ny0_; clear ny0_; replace HB := Aside0.mk hb0; replace HL := Aside0.mk (And.intro HL.out hk.1); clear hb0 hk hy0; clear hcz55 hfz56 hcz57 hfz58; have hcz60 : w59.cell? ⟨gb1, 0, none⟩ = some (.slice A0_0 l0_0.length c0_0) := (blk_cell BK1.out 0).trans rfl; have hfz61 := blk_frozen BK1.out 0; have hcz62 : w59.cell? ⟨gb13, 0, none⟩ = some (.slice A12 t11.length c12) := (blk_cell BK13.out 0).trans rfl; have hfz63 := blk_frozen BK13.out 0) | ((with_reducible refine gate_callee (f := 30) rfl ?_); refine goesL_ (some 48) rfl rfl Try.func30 (by kernel_rfl) rfl #[.slice A16 t31.length c16, .int .i64 1] rfl (by (try simp only [List.map_toArray, List.map_cons, List.map_nil]); first | done | (rw [show t31.length = t15.length from (Kd.R_reads' HZ16.out).1.symm] <;> rfl) | rfl | (simp only [List.length_drop, List.length_take]; rfl)) ?_; (with_reducible refine (laws_heldIntS.calls k _ _ t31 1 t33 _ ?side1 ?side2 Fa16.out).mono ?_); (case side1 => exact (Kd.R_reads' HZ16.out).2.2); (case side2 => have h1_ := (Kd.R_reads' HZ16.out).1; have h2_ := (Kd.R_reads' HZ16.out).2.1; omega); rintro e w64 ⟨rfl, hd_⟩; refine ⟨_, rfl, ?_⟩; have hb := hd_.below; clear hd_; replace HZ6 := Aside0.mk (Kd.S_below HZ6.out hb); replace HZ9 := Aside0.mk (Kd.R_below HZ9.out hb); replace HZ12 := Aside0.mk (Kd.S_below HZ12.out hb); replace HZ16 := Aside0.mk (Kd.R_below HZ16.out hb); replace HZ21 := Aside0.mk (Kd.S_below HZ21.out hb); replace BK1 := Aside0.mk (blk_below BK1.out hb); replace BK13 := Aside0.mk (blk_below BK13.out hb); replace HB := Aside0.mk (below_step HB.out hb); replace HL := Aside0.mk (And.intro HL.out (below_size hb)); clear hb; clear hcz60 hfz61 hcz62 hfz63; have hcz65 : w64.cell? ⟨gb1, 0, none⟩ = some (.slice A0_0 l0_0.length c0_0) := (blk_cell BK1.out 0).trans rfl; have hfz66 := blk_frozen BK1.out 0; have hcz67 : w64.cell? ⟨gb13, 0, none⟩ = some (.slice A12 t11.length c12) := (blk_cell BK13.out 0).trans rfl; have hfz68 := blk_frozen BK13.out 0) | ((with_reducible refine gate_callee (f := 33) rfl ?_); refine goesL_ (some 55) rfl rfl Try.func33 (by kernel_rfl) rfl #[.agg #[.slice A0_0 l0_0.length c0_0]] rfl (by (try simp only [List.map_toArray, List.map_cons, List.map_nil]); first | done | rfl | (simp only [List.length_drop, List.length_take]; rfl)) ?_; (with_reducible refine (laws_toFlash.calls k _ _ l0_0 t35 _ ?side1 ?side2 Fa19.out).mono ?_); (case side1 => exact Kd.C_below HR0_0.out HB.out); (case side2 => exact HC0_0.out); rintro e w69 ⟨v36, rfl, ho0, hb⟩; refine ⟨_, rfl, ?_⟩; have HZ36 := Aside0.mk (Kd.S_lower (Kd.S_mono (ok' := fun k_ => (w64.heap.size ≤ k_ ∧ k_ < w69.heap.size)) (Kd.S_bound ho0) (fun k_ hk_ => ⟨hk_.2.1, hk_.2.2.1⟩)) (below_size HB.out)); clear ho0; replace HZ6 := Aside0.mk (Kd.S_below HZ6.out hb); replace HZ9 := Aside0.mk (Kd.R_below HZ9.out hb); replace HZ12 := Aside0.mk (Kd.S_below HZ12.out hb); replace HZ16 := Aside0.mk (Kd.R_below HZ16.out hb); replace HZ21 := Aside0.mk (Kd.S_below HZ21.out hb); replace BK1 := Aside0.mk (blk_below BK1.out hb); replace BK13 := Aside0.mk (blk_below BK13.out hb); replace HB := Aside0.mk (below_step HB.out hb); replace HL := Aside0.mk (And.intro HL.out (below_size hb)); clear hb; obtain ⟨A36, c36, e36⟩ := Kd.S_slice HZ36.out; subst e36; clear hcz65 hfz66 hcz67 hfz68; have hcz70 : w69.cell? ⟨gb1, 0, none⟩ = some (.slice A0_0 l0_0.length c0_0) := (blk_cell BK1.out 0).trans rfl; have hfz71 := blk_frozen BK1.out 0; have hcz72 : w69.cell? ⟨gb13, 0, none⟩ = some (.slice A12 t11.length c12) := (blk_cell BK13.out 0).trans rfl; have hfz73 := blk_frozen BK13.out 0) | ((with_reducible refine gate_callee (f := 34) rfl ?_); refine goesL_ (some 56) rfl rfl Try.func34 (by kernel_rfl) rfl #[.agg #[.slice A36 t35.length c36]] rfl (by (try simp only [List.map_toArray, List.map_cons, List.map_nil]); first | done | rfl | (simp only [List.length_drop, List.length_take]; rfl)) ?_; (with_reducible refine (impl_FreeBlocks.calls k _ _ t35 t38 _ ?side1 ?side2 Fa20.out).mono ?_); (case side1 => exact (Kd.S_reads' HZ36.out).2.2); (case side2 => exact (Kd.S_reads' HZ36.out).2.1); rintro e w74 ⟨v39, rfl, ho0, hb⟩; refine ⟨_, rfl, ?_⟩; have HZ39 := Aside0.mk (Kd.R_lower (Kd.R_mono (ok' := fun k_ => (w69.heap.size ≤ k_ ∧ k_ < w74.heap.size)) (Kd.R_bound ho0) (fun k_ hk_ => ⟨hk_.2.1, hk_.2.2.1⟩)) (below_size HB.out)); clear ho0; replace HZ6 := Aside0.mk (Kd.S_below HZ6.out hb); replace HZ9 := Aside0.mk (Kd.R_below HZ9.out hb); replace HZ12 := Aside0.mk (Kd.S_below HZ12.out hb); replace HZ16 := Aside0.mk (Kd.R_below HZ16.out hb); replace HZ21 := Aside0.mk (Kd.S_below HZ21.out hb); replace HZ36 := Aside0.mk (Kd.S_below HZ36.out hb); replace BK1 := Aside0.mk (blk_below BK1.out hb); replace BK13 := Aside0.mk (blk_below BK13.out hb); replace HB := Aside0.mk (below_step HB.out hb); replace HL := Aside0.mk (And.intro HL.out (below_size hb)); clear hb; obtain ⟨A39, c39, e39⟩ := Kd.R_slice HZ39.out; subst e39; clear hcz70 hfz71 hcz72 hfz73; have hcz75 : w74.cell? ⟨gb1, 0, none⟩ = some (.slice A0_0 l0_0.length c0_0) := (blk_cell BK1.out 0).trans rfl; have hfz76 := blk_frozen BK1.out 0; have hcz77 : w74.cell? ⟨gb13, 0, none⟩ = some (.slice A12 t11.length c12) := (blk_cell BK13.out 0).trans rfl; have hfz78 := blk_frozen BK13.out 0) | ((with_reducible refine gate_callee (f := 26) rfl ?_); refine goesL_ (some 59) rfl rfl Try.func26 (by kernel_rfl) rfl #[.slice A39 t38.length c39, .slice A9 t8.length c9] rfl (by (try simp only [List.map_toArray, List.map_cons, List.map_nil]); first | done | rfl | (simp only [List.length_drop, List.length_take]; rfl)) ?_; (with_reducible refine (laws_eqIntS.calls k _ _ t38 _ _ t8 true _ ?side1 ?side2 ?side3 ?side4 Fa21.out).mono ?_); (case side1 => exact (Kd.R_reads' HZ39.out).2.2); (case side2 => exact (Kd.R_reads' HZ39.out).2.1); (case side3 => exact (Kd.R_reads' HZ9.out).2.2); (case side4 => exact (Kd.R_reads' HZ9.out).2.1); rintro e w79 ⟨rfl, hd_⟩; refine ⟨_, rfl, ?_⟩; have hb := hd_.below; clear hd_; replace HZ6 := Aside0.mk (Kd.S_below HZ6.out hb); replace HZ9 := Aside0.mk (Kd.R_below HZ9.out hb); replace HZ12 := Aside0.mk (Kd.S_below HZ12.out hb); replace HZ16 := Aside0.mk (Kd.R_below HZ16.out hb); replace HZ21 := Aside0.mk (Kd.S_below HZ21.out hb); replace HZ36 := Aside0.mk (Kd.S_below HZ36.out hb); replace HZ39 := Aside0.mk (Kd.R_below HZ39.out hb); replace BK1 := Aside0.mk (blk_below BK1.out hb); replace BK13 := Aside0.mk (blk_below BK13.out hb); replace HB := Aside0.mk (below_step HB.out hb); replace HL := Aside0.mk (And.intro HL.out (below_size hb)); clear hb; clear hcz75 hfz76 hcz77 hfz78; have hcz80 : w79.cell? ⟨gb1, 0, none⟩ = some (.slice A0_0 l0_0.length c0_0) := (blk_cell BK1.out 0).trans rfl; have hfz81 := blk_frozen BK1.out 0; have hcz82 : w79.cell? ⟨gb13, 0, none⟩ = some (.slice A12 t11.length c12) := (blk_cell BK13.out 0).trans rfl; have hfz83 := blk_frozen BK13.out 0) | ((with_reducible refine gate_callee (f := 30) rfl ?_); refine goesL_ (some 63) rfl rfl Try.func30 (by kernel_rfl) rfl #[.slice A16 t31.length c16, .int .i64 1] rfl (by (try simp only [List.map_toArray, List.map_cons, List.map_nil]); first | done | (rw [show t31.length = t15.length from (Kd.R_reads' HZ16.out).1.symm] <;> rfl) | rfl | (simp only [List.length_drop, List.length_take]; rfl)) ?_; (with_reducible refine (laws_heldIntS.calls k _ _ t31 1 t43 _ ?side1 ?side2 Fa23.out).mono ?_); (case side1 => exact (Kd.R_reads' HZ16.out).2.2); (case side2 => have h1_ := (Kd.R_reads' HZ16.out).1; have h2_ := (Kd.R_reads' HZ16.out).2.1; omega); rintro e w84 ⟨rfl, hd_⟩; refine ⟨_, rfl, ?_⟩; have hb := hd_.below; clear hd_; replace HZ6 := Aside0.mk (Kd.S_below HZ6.out hb); replace HZ9 := Aside0.mk (Kd.R_below HZ9.out hb); replace HZ12 := Aside0.mk (Kd.S_below HZ12.out hb); replace HZ16 := Aside0.mk (Kd.R_below HZ16.out hb); replace HZ21 := Aside0.mk (Kd.S_below HZ21.out hb); replace HZ36 := Aside0.mk (Kd.S_below HZ36.out hb); replace HZ39 := Aside0.mk (Kd.R_below HZ39.out hb); replace BK1 := Aside0.mk (blk_below BK1.out hb); replace BK13 := Aside0.mk (blk_below BK13.out hb); replace HB := Aside0.mk (below_step HB.out hb); replace HL := Aside0.mk (And.intro HL.out (below_size hb)); clear hb; clear hcz80 hfz81 hcz82 hfz83; have hcz85 : w84.cell? ⟨gb1, 0, none⟩ = some (.slice A0_0 l0_0.length c0_0) := (blk_cell BK1.out 0).trans rfl; have hfz86 := blk_frozen BK1.out 0; have hcz87 : w84.cell? ⟨gb13, 0, none⟩ = some (.slice A12 t11.length c12) := (blk_cell BK13.out 0).trans rfl; have hfz88 := blk_frozen BK13.out 0))
    go_ret
    exact ⟨rfl, HB.out⟩
end Go.Proofs.Ytijbejiajaiciaa.PC

/- What a law's arguments, read as data, are as the print's kinds. -/
namespace Go.Proofs.Ytijbejiajaiciaa.Open
open Go.RowKit Go.Proofs.YtijbejiajaiciaaW.PrintWords

/-- A datum that is read at type t is of kind d, and each such y meets wf. -/
def Opn {α : Type} (P : Program) (t : TypeId) (d : Kd α) (wf : α → Prop) : Prop :=
  ∀ (H : Type) (enc : TypeId × Value → H) (w : World) (base : Nat) (spare : Nat → Bool) (held : Bool) (fuel : Nat) (cs : List Value) (x : DataW H × List MemPlace),
    DataW.trod enc P w base spare held fuel t cs = some x → ∃ y : α, d.K w y cs ∧ wf y

theorem opn_int {P : Program} {t : TypeId} {k : IntKind} (hu : P.underlying t = some (.int k)) : Opn P t (Kd.int k) (fun n => (Lit.int k n).wf = true) := by
  intro H enc w base spare held fuel cs x h
  obtain ⟨n, rfl, _, hw⟩ := DataW.trod_int hu h
  exact ⟨n, rfl, hw⟩
theorem opn_bool {P : Program} {t : TypeId} (hu : P.underlying t = some .bool) : Opn P t Kd.bool (fun _ => True) := by
  intro H enc w base spare held fuel cs x h
  obtain ⟨n, rfl, _⟩ := DataW.trod_bool hu h
  exact ⟨n, rfl, trivial⟩
theorem opn_string {P : Program} {t : TypeId} (hu : P.underlying t = some .string) : Opn P t Kd.string (fun s => s.size ≤ maxLen) := by
  intro H enc w base spare held fuel cs x h
  obtain ⟨n, rfl, _, hw⟩ := DataW.trod_string hu h
  exact ⟨n, rfl, hw⟩
theorem choose_list {α : Type} {Q : Nat → α → Prop} : ∀ (n : Nat), (∀ i, i < n → ∃ y, Q i y) → ∃ ys : List α, ys.length = n ∧ ∀ i y, ys[i]? = some y → Q i y
  | 0, _ => ⟨[], rfl, fun i y h => by simp at h⟩
  | n + 1, h => by
    obtain ⟨ys, hl, hq⟩ := choose_list n (fun i hi => h i (by omega))
    obtain ⟨y, hy⟩ := h n (by omega)
    refine ⟨ys ++ [y], by simp [hl], fun i z hz => ?_⟩
    rcases Nat.lt_or_ge i ys.length with hi | hi
    · rw [List.getElem?_append_left hi] at hz
      exact hq i z hz
    · rw [List.getElem?_append_right hi] at hz
      have hi2 : i - ys.length = 0 := by
        have := (List.getElem?_eq_some_iff.1 hz).1
        simp at this
        omega
      rw [hi2] at hz
      have : i = n := by omega
      subst this
      simp at hz
      subst hz
      exact hy
theorem adds (a : Addr) (m n : Nat) : (a.add m).add n = a.add (m + n) := by
  unfold Addr.add
  by_cases h1 : m = 0 <;> by_cases h2 : n = 0 <;> simp_all [Nat.add_assoc]
theorem opn_slice {α : Type} {P : Program} {t e : TypeId} {d : Kd α} {wf : α → Prop} (hu : P.underlying t = some (.slice e)) (hc : P.cellsOf e = d.sz) (ho : Opn P e d wf) :
    Opn P t (Kd.slice e d) (fun xs => xs.length ≤ maxLen ∧ ∀ x ∈ xs, wf x) := by
  intro H enc w base spare held fuel cs x h
  rcases DataW.trod_slice hu h with ⟨rfl, _⟩ | ⟨a, len, cap, elems, rest, n, _, rfl, _, hb, hl, hm, hlen, hel, _, _⟩
  · refine ⟨[], ⟨none, 0, rfl, Nat.le_refl _, rfl, by simp, fun h0 => absurd h0 (by simp)⟩, by simp, fun x hx => absurd hx (by simp)⟩
  · have each : ∀ i, i < len → ∃ y : α, ∃ c : List Value, (c.length = d.sz ∧ d.K w y c ∧ ∀ j u, c[j]? = some u → w.cell? (a.add (i * d.sz + j)) = some u) ∧ wf y := by
      intro i hi
      have h1 := hel i hi
      rw [List.getElem?_eq_getElem (by omega), Option.bind_eq_some_iff, hc] at h1
      obtain ⟨c, h2, h3⟩ := h1
      obtain ⟨_, hcl, hcell⟩ := World.cells?_some h2
      obtain ⟨y, hk, hw⟩ := ho H enc w base spare held n c _ h3
      refine ⟨y, c, ⟨hcl, hk, fun j u hj => ?_⟩, hw⟩
      have hjl : j < c.length := (List.getElem?_eq_some_iff.1 hj).1
      rw [← adds, hcell j (by omega), hj]
    obtain ⟨ys, hyl, hys⟩ := choose_list len each
    have hml : len ≤ maxLen := Nat.le_trans hl hm
    refine ⟨ys, ⟨some a, cap, by rw [hyl], by rw [hyl]; exact hl, rfl, by rw [hyl]; simpa only [maxLen] using hml, fun _ => ⟨a, rfl, fun j p hj => ?_⟩⟩, by rw [hyl]; exact hml, fun y hy => ?_⟩
    · obtain ⟨c, hq, _⟩ := hys j p hj
      exact ⟨c, hq⟩
    · obtain ⟨j, hj, he⟩ := List.getElem_of_mem hy
      obtain ⟨_, _, hw⟩ := hys j y (by rw [List.getElem?_eq_getElem hj, he])
      exact hw

/-- The fields fs, read off the cells from off on, are of kind d. -/
def OpnF {α : Type} (P : Program) (fs : List Field) (off : Nat) (d : Kd α) (wf : α → Prop) : Prop :=
  ∀ (H : Type) (enc : TypeId × Value → H) (w : World) (base : Nat) (spare : Nat → Bool) (held : Bool) (fuel : Nat) (cs : List Value), cs.length = off + d.sz →
    (∀ f ∈ fs, ∃ x, DataW.trod enc P w base spare held fuel f.type ((cs.drop f.offset).take (P.cellsOf f.type)) = some x) → ∃ y : α, d.K w y (cs.drop off) ∧ wf y
theorem opnF_one {α : Type} {P : Program} {f : Field} {off : Nat} {d : Kd α} {wf : α → Prop} (hoff : f.offset = off) (hc : P.cellsOf f.type = d.sz) (ho : Opn P f.type d wf) : OpnF P [f] off d wf := by
  intro H enc w base spare held fuel cs hl h
  obtain ⟨x, hx⟩ := h f (by simp)
  obtain ⟨y, hk, hw⟩ := ho H enc w base spare held fuel _ x hx
  rw [hoff, hc, List.take_of_length_le (by rw [List.length_drop]; omega)] at hk
  exact ⟨y, hk, hw⟩
theorem opnF_cons {α β : Type} {P : Program} {f : Field} {fs : List Field} {off : Nat} {a : Kd α} {b : Kd β} {wa : α → Prop} {wb : β → Prop} (hoff : f.offset = off) (hc : P.cellsOf f.type = a.sz) (ho : Opn P f.type a wa) (hr : OpnF P fs (off + a.sz) b wb) :
    OpnF P (f :: fs) off (Kd.pair a b) (fun p => wa p.1 ∧ wb p.2) := by
  intro H enc w base spare held fuel cs hl h
  obtain ⟨x, hx⟩ := h f (by simp)
  obtain ⟨y, hk, hw⟩ := ho H enc w base spare held fuel _ x hx
  have hsz : (Kd.pair a b).sz = a.sz + b.sz := rfl
  obtain ⟨z, hk2, hw2⟩ := hr H enc w base spare held fuel cs (by omega) (fun g hg => h g (List.mem_cons_of_mem _ hg))
  rw [hoff, hc] at hk
  refine ⟨(y, z), ⟨(cs.drop off).take a.sz, cs.drop (off + a.sz), ?_, hk, hk2⟩, hw, hw2⟩
  rw [← List.drop_drop, List.take_append_drop]
theorem opn_tuple {α : Type} {P : Program} {t : TypeId} {fs : List Field} {d : Kd α} {wf : α → Prop} (hu : P.underlying t = some (.struct fs.toArray)) (hc : P.cellsOf t = d.sz) (ho : OpnF P fs 0 d wf) :
    Opn P t d wf := by
  intro H enc w base spare held fuel cs x h
  obtain ⟨xs, n, _, _, hl, hlen, hf⟩ := DataW.trod_struct hu h
  obtain ⟨y, hk, hw⟩ := ho H enc w base spare held n cs (by omega) (fun fl hfl => by
    obtain ⟨i, hi, he⟩ := List.getElem_of_mem hfl
    have h1 := hf i fl (by simpa using (List.getElem?_eq_getElem hi).trans (congrArg some he))
    have hlen2 : xs.length = fs.length := by simpa using hlen
    exact ⟨xs[i]'(by omega), by rw [h1, List.getElem?_eq_getElem]⟩)
  exact ⟨y, by simpa using hk, hw⟩
theorem opn_struct {α β : Type} {P : Program} {t : TypeId} {fs : List Field} {d : Kd α} {wf : α → Prop} (f : β → α) (g : α → β) (hfg : ∀ a, f (g a) = a) (hu : P.underlying t = some (.struct fs.toArray)) (hc : P.cellsOf t = d.sz) (ho : OpnF P fs 0 d wf) :
    Opn P t (Kd.iso d f) (fun y => wf (f y)) := by
  intro H enc w base spare held fuel cs x h
  obtain ⟨xs, n, _, _, hl, hlen, hf⟩ := DataW.trod_struct hu h
  obtain ⟨y, hk, hw⟩ := ho H enc w base spare held n cs (by omega) (fun fl hfl => by
    obtain ⟨i, hi, he⟩ := List.getElem_of_mem hfl
    have h1 := hf i fl (by simpa using (List.getElem?_eq_getElem hi).trans (congrArg some he))
    have hlen2 : xs.length = fs.length := by simpa using hlen
    exact ⟨xs[i]'(by omega), by rw [h1, List.getElem?_eq_getElem]⟩)
  exact ⟨g y, by show d.K w (f (g y)) cs; rw [hfg]; simpa using hk, by show wf (f (g y)); rw [hfg]; exact hw⟩
end Go.Proofs.Ytijbejiajaiciaa.Open

/- Plain facts on rounds, lists and whole numbers, for the pure statements. -/
namespace Go.Proofs.Ytijbejiajaiciaa.Pu
set_option linter.unusedVariables false
set_option linter.unusedSimpArgs false
open Go.RowKit Go.Proofs.YtijbejiajaiciaaW.PrintWords

theorem w64 {x : Int} (h1 : -9223372036854775808 ≤ x) (h2 : x ≤ 9223372036854775807) : wrap64 x = x := by
  unfold wrap64; omega
theorem wsucc {i n : Nat} (h : i < n) (hn : n ≤ 9223372036854775807) : wrap64 ((i : Int) + 1) = ((i + 1 : Nat) : Int) := by
  rw [w64 (by omega) (by omega)]; rfl
theorem wf_i64 {n : Int} (h : (Lit.int .i64 n).wf = true) : -9223372036854775808 ≤ n ∧ n ≤ 9223372036854775807 := by
  simp only [Lit.wf, Bool.and_eq_true, decide_eq_true_eq] at h
  have h1 : IntKind.min .i64 = -9223372036854775808 := by decide
  have h2 : IntKind.max .i64 = 9223372036854775807 := by decide
  omega

/-- Rounds: what is told, a step on. -/
theorem ev_some {α : Type} {g : Nat → Option α} {r : α} (h : ∀ k, g (k + 1) = some r) : Ev g r := Ev.step h (Ev.now r)
theorem ev_const {α : Type} {o : Option α} {r : α} (h : o = some r) : Ev (fun _ => o) r := ⟨0, fun _ _ => h⟩
theorem ev_bind {α β : Type} {g : Nat → Option α} {f : Nat → α → Option β} {a : α} {r : β} (h : Ev g a) (k : Ev (fun n => f n a) r) : Ev (fun n => (g n).bind (f n)) r := Ev.bind h k
theorem ev_uniq {α : Type} {g : Nat → Option α} {a b : α} (h : Ev g a) (k : Ev g b) : a = b := by
  obtain ⟨K, hK⟩ := h
  obtain ⟨M, hM⟩ := k
  have h1 := hK (max K M) (Nat.le_max_left _ _)
  rw [hM (max K M) (Nat.le_max_right _ _)] at h1
  injection h1 with h1
  exact h1.symm
theorem ev_ext {α : Type} {g f : Nat → Option α} {r : α} (h : ∀ k, g k = f k) (k : Ev f r) : Ev g r := Ev.congr h k

/-- A row that is made and filled, place by place. -/
theorem ev_fill {β : Type} {L : Nat → List β → Int → Option (List β)} {E : Nat → Int → Option β} {n : Nat} {e : Nat → β} (hn : n ≤ 9223372036854775807)
    (hs : ∀ k xs i, L (k + 1) xs i = if i < (n : Int) then (if 0 ≤ i then ((E k i).bind fun b => if i < (xs.length : Int) then L k (xs.set i.toNat b) (wrap64 (i + 1)) else none) else none) else some xs)
    (hE : ∀ i, i < n → Ev (fun k => E k (i : Int)) (e i)) :
    ∀ (d i : Nat) (xs : List β), xs.length = n → i + d = n → Ev (fun k => L k xs (i : Int)) (xs.take i ++ (List.range' i d).map e) := by
  intro d
  induction d with
  | zero =>
    intro i xs hl hi
    refine ev_some fun k => ?_
    rw [hs, if_neg (by omega)]
    simp [List.take_of_length_le (show xs.length ≤ i by omega)]
  | succ d ih =>
    intro i xs hl hi
    refine Ev.step (f := fun k => (E k (i : Int)).bind fun b => L k (xs.set i b) ((i + 1 : Nat) : Int)) (fun k => ?_) ?_
    · rw [hs, if_pos (by omega), if_pos (by omega), wsucc (n := n) (by omega) hn]
      congr 1
      funext b
      rw [if_pos (by omega)]
      rfl
    · refine ev_bind (hE i (by omega)) ?_
      have h := ih (i + 1) (xs.set i (e i)) (by rw [List.length_set]; exact hl) (by omega)
      have e1 : (xs.set i (e i)).take (i + 1) ++ (List.range' (i + 1) d).map e = xs.take i ++ (List.range' i (d + 1)).map e := by
        rw [List.range'_succ, List.map_cons, List.take_succ_eq_append_getElem (by rw [List.length_set]; omega), List.getElem_set_self, List.take_set_of_le (Nat.le_refl _)]
        simp
      rw [e1] at h
      exact h
theorem map_range {α β : Type} (l : List α) (z : α) (g : α → β) : (List.range' 0 l.length).map (fun i => g (l.getD i z)) = l.map g := by
  apply List.ext_getElem
  · simp
  · intro i h1 h2
    simp only [List.length_map] at h2
    simp [List.getD_eq_getElem?_getD, List.getElem?_eq_getElem h2]
theorem ev_fill_all {α β : Type} {L : Nat → List β → Int → Option (List β)} {E : Nat → Int → Option β} {l : List α} {z : α} {g : α → β} {xs : List β} (hn : l.length ≤ 9223372036854775807)
    (hs : ∀ k xs i, L (k + 1) xs i = if i < (l.length : Int) then (if 0 ≤ i then ((E k i).bind fun b => if i < (xs.length : Int) then L k (xs.set i.toNat b) (wrap64 (i + 1)) else none) else none) else some xs)
    (hE : ∀ i, i < l.length → Ev (fun k => E k (i : Int)) (g (l.getD i z))) (hx : xs.length = l.length) : Ev (fun k => L k xs 0) (l.map g) := by
  have h := ev_fill (e := fun i => g (l.getD i z)) hn hs hE l.length 0 xs hx (by omega)
  rw [map_range] at h
  simpa using h

/-- Every place meets a test, tried place by place. -/
theorem ev_all {L E : Nat → Int → Option Bool} {n m : Nat} (hn : n ≤ 9223372036854775807) (hnm : n ≤ m)
    (hs : ∀ k i, L (k + 1) i = if i < (n : Int) then (if 0 ≤ i then (if i < (m : Int) then ((E k i).bind fun b => if b = true then L k (wrap64 (i + 1)) else some false) else none) else none) else some true)
    (hE : ∀ i, i < n → Ev (fun k => E k (i : Int)) true) : ∀ (d i : Nat), i + d = n → Ev (fun k => L k (i : Int)) true := by
  intro d
  induction d with
  | zero => intro i hi; exact ev_some fun k => by rw [hs, if_neg (by omega)]
  | succ d ih =>
    intro i hi
    refine Ev.step (f := fun k => (E k (i : Int)).bind fun b => if b = true then L k ((i + 1 : Nat) : Int) else some false) (fun k => ?_) (ev_bind (hE i (by omega)) (by simpa using ih (i + 1) (by omega)))
    rw [hs, if_pos (by omega), if_pos (by omega), if_pos (by omega), wsucc (n := n) (by omega) hn]

/-- What is left of a number, place by place, as long as it is not below 0. -/
theorem ev_size {L E : Nat → Int → Int → Option Int} {n : Nat} {P : Nat → Prop} (hn : n ≤ 9223372036854775807)
    (hs : ∀ k a i, L (k + 1) a i = if i < (n : Int) then (if 0 ≤ i then ((E k i a).bind fun t => if t < 0 then some (-1) else L k t (wrap64 (i + 1))) else none) else some a)
    (hE : ∀ i a, i < n → 0 ≤ a → a ≤ 1048576 → ∃ t, Ev (fun k => E k (i : Int) a) t ∧ t ≤ a ∧ (0 ≤ t → P i)) :
    ∀ (d i : Nat) (a : Int), i + d = n → 0 ≤ a → a ≤ 1048576 → ∃ r, Ev (fun k => L k a (i : Int)) r ∧ r ≤ a ∧ (0 ≤ r → ∀ m, i ≤ m → m < n → P m) := by
  intro d
  induction d with
  | zero => intro i a hi h0 h1; exact ⟨a, ev_some fun k => by rw [hs, if_neg (by omega)], Int.le_refl _, fun _ m h2 h3 => by omega⟩
  | succ d ih =>
    intro i a hi h0 h1
    obtain ⟨t, ht, hta, hp⟩ := hE i a (by omega) h0 h1
    have hst : ∀ k, L (k + 1) a (i : Int) = (E k (i : Int) a).bind fun t => if t < 0 then some (-1) else L k t ((i + 1 : Nat) : Int) := fun k => by
      rw [hs, if_pos (by omega), if_pos (by omega), wsucc (n := n) (by omega) hn]
    by_cases hneg : t < 0
    · exact ⟨-1, Ev.step hst (ev_bind ht (by simp only [if_pos hneg]; exact Ev.now _)), by omega, fun h => by omega⟩
    · obtain ⟨r, hr, hra, hq⟩ := ih (i + 1) t (by omega) (by omega) (by omega)
      refine ⟨r, Ev.step hst (ev_bind ht (by simp only [if_neg hneg]; exact hr)), by omega, fun h0r m h2 h3 => ?_⟩
      by_cases e : m = i
      · subst e; exact hp (by omega)
      · exact hq h0r m (by omega) h3
end Go.Proofs.Ytijbejiajaiciaa.Pu

/- More plain facts on rounds: tests in a row, folds, searches. -/
namespace Go.Proofs.Ytijbejiajaiciaa.Pu
set_option linter.unusedVariables false
set_option linter.unusedSimpArgs false
open Go.RowKit Go.Proofs.YtijbejiajaiciaaW.PrintWords

/-- Tests in a row, one a round; then what comes. -/
theorem ev_scan {L : Nat → Int → Option Bool} {g : Nat → Option Bool} {n : Nat} {T : Nat → Bool} {r : Bool}
    (hs : ∀ k i, i < n → L (k + 1) (i : Int) = if T i = true then L k ((i + 1 : Nat) : Int) else some false) (he : ∀ k, L (k + 1) (n : Int) = g k) (hr : Ev g r) :
    ∀ (d i : Nat), i + d = n → Ev (fun k => L k (i : Int)) ((List.range' i d).all T && r) := by
  intro d
  induction d with
  | zero =>
    intro i hi
    obtain rfl : i = n := by omega
    exact Ev.step he hr
  | succ d ih =>
    intro i hi
    rw [List.range'_succ, List.all_cons]
    by_cases h : T i = true
    · rw [h, Bool.true_and]
      exact Ev.step (fun k => by rw [hs k i (by omega), if_pos h]) (ih (i + 1) (by omega))
    · rw [Bool.eq_false_iff.mpr h, Bool.false_and, Bool.false_and]
      exact ev_some fun k => by rw [hs k i (by omega), if_neg h]
/-- Tests in a row, each of many rounds; then what comes. -/
theorem ev_outer {L : Nat → Int → Option Bool} {n : Nat} {T : Nat → Bool} {r0 : Bool}
    (hs : ∀ i r, i < n → Ev (fun k => L k ((i + 1 : Nat) : Int)) r → Ev (fun k => L k (i : Int)) (T i && r)) (he : Ev (fun k => L k (n : Int)) r0) :
    ∀ (d i : Nat), i + d = n → Ev (fun k => L k (i : Int)) ((List.range' i d).all T && r0) := by
  intro d
  induction d with
  | zero =>
    intro i hi
    obtain rfl : i = n := by omega
    exact he
  | succ d ih =>
    intro i hi
    rw [List.range'_succ, List.all_cons, Bool.and_assoc]
    exact hs i _ (by omega) (ih (i + 1) (by omega))
/-- A state that is carried along; then what comes. -/
theorem ev_fold {σ ρ : Type} {L : Nat → σ → Int → Option ρ} {n : Nat} {F : σ → Nat → σ} {fin : σ → ρ} (Inv : Nat → σ → Prop)
    (hs : ∀ s i, i < n → Inv i s → ∀ r, Ev (fun k => L k (F s i) ((i + 1 : Nat) : Int)) r → Ev (fun k => L k s (i : Int)) r) (hi : ∀ s i, i < n → Inv i s → Inv (i + 1) (F s i))
    (he : ∀ s, Inv n s → Ev (fun k => L k s (n : Int)) (fin s)) : ∀ (d i : Nat) (s : σ), i + d = n → Inv i s → Ev (fun k => L k s (i : Int)) (fin ((List.range' i d).foldl F s)) := by
  intro d
  induction d with
  | zero =>
    intro i s h hv
    obtain rfl : i = n := by omega
    exact he s hv
  | succ d ih =>
    intro i s h hv
    rw [List.range'_succ, List.foldl_cons]
    exact hs s i (by omega) hv _ (ih (i + 1) (F s i) (by omega) (hi s i (by omega) hv))
/-- The first place that meets a test, -1 without one. -/
def findI (T : Nat → Bool) : Nat → Nat → Int
  | _, 0 => -1
  | i, d + 1 => if T i = true then (i : Int) else findI T (i + 1) d
theorem ev_find {L : Nat → Int → Option Int} {n : Nat} {T : Nat → Bool}
    (hy : ∀ i, i < n → T i = true → Ev (fun k => L k (i : Int)) (i : Int)) (hn : ∀ i, i < n → T i = false → ∀ r, Ev (fun k => L k ((i + 1 : Nat) : Int)) r → Ev (fun k => L k (i : Int)) r)
    (he : Ev (fun k => L k (n : Int)) (-1)) : ∀ (d i : Nat), i + d = n → Ev (fun k => L k (i : Int)) (findI T i d) := by
  intro d
  induction d with
  | zero =>
    intro i hi
    obtain rfl : i = n := by omega
    exact he
  | succ d ih =>
    intro i hi
    unfold findI
    by_cases h : T i = true
    · rw [if_pos h]; exact hy i (by omega) h
    · rw [if_neg h]; exact hn i (by omega) (Bool.eq_false_iff.mpr h) _ (ih (i + 1) (by omega))
theorem findI_range {T : Nat → Bool} : ∀ (d i : Nat), findI T i d = -1 ∨ ∃ j, i ≤ j ∧ j < i + d ∧ findI T i d = (j : Int) ∧ T j = true
  | 0, i => .inl rfl
  | d + 1, i => by
    unfold findI
    by_cases h : T i = true
    · rw [if_pos h]; exact .inr ⟨i, Nat.le_refl _, by omega, rfl, h⟩
    · rw [if_neg h]
      rcases findI_range d (i + 1) with h1 | ⟨j, h1, h2, h3, h4⟩
      · exact .inl h1
      · exact .inr ⟨j, by omega, by omega, h3, h4⟩
theorem bytes_empty (a : ByteArray) : (a.toList == ([] : List UInt8)) = decide ((a.size : Int) ≤ 0) := by
  rw [ByteArray.toList_eq]
  have h : a.data.toList.length = a.size := by rw [Array.length_toList]; rfl
  cases e : a.data.toList with
  | nil =>
    have h1 : a.size = 0 := by rw [← h, e]; rfl
    rw [decide_eq_true (by omega)]; rfl
  | cons x l =>
    have h1 : a.size = l.length + 1 := by rw [← h, e]; rfl
    rw [decide_eq_false (by omega)]; rfl
theorem getD_mem' {α : Type} {l : List α} {i : Nat} {z : α} (hi : i < l.length) : l.getD i z ∈ l := by
  rw [List.getD_eq_getElem?_getD, List.getElem?_eq_getElem hi]; exact List.getElem_mem hi
end Go.Proofs.Ytijbejiajaiciaa.Pu

/- What the functions on flashes answer: sizes, copies, comparison. -/
namespace Go.Proofs.Ytijbejiajaiciaa.Pu
set_option linter.unusedVariables false
set_option linter.unusedSimpArgs false
open Go.RowKit Go.Proofs.Ytijbejiajaiciaa.PC Go.Proofs.YtijbejiajaiciaaW.PrintWords

theorem rdLB_nat (l : List S144) (i : Nat) : rd_T144 l (i : Int) = l.getD i z144 := rfl
theorem rdIB_nat (l : List S112) (i : Nat) : rd_T112 l (i : Int) = l.getD i z112 := rfl
theorem rdLL_nat (l : List S163) (i : Nat) : rd_T163 l (i : Int) = l.getD i z163 := rfl
theorem rdIL_nat (l : List S114) (i : Nat) : rd_T114 l (i : Int) = l.getD i z114 := rfl

def toLf (x : S163) : S114 := ⟨x.f0, x.f1⟩
def toBk (x : S144) : S112 := ⟨x.f0, x.f1, x.f2.map toLf⟩
def toFl (l : List S144) : List S112 := l.map toBk

theorem toLeafS_ev (l : List S163) (h : l.length ≤ 1048576) : Ev (fun k => laws_toLeafS.f k l) (l.map toLf) := by
  have h1 := ev_fill_all (E := fun _ i => (laws_toLeaf.f (rd_T163 l i).f0 (rd_T163 l i).f1).bind fun bt => some (⟨bt.1, bt.2⟩ : S114)) (l := l) (z := z163) (g := toLf) (xs := List.replicate l.length z114) (L := fun k xs i => laws_toLeafS.l0 k l xs i) (by omega) (fun k xs i => by
    simp only [laws_toLeafS.l0, Option.bind_assoc, Option.bind_some]) (fun i hi => by rw [rdLL_nat]; exact Ev.now _) (by simp)
  refine ev_ext (fun k => ?_) h1
  unfold laws_toLeafS.f
  rw [if_pos (by omega), if_pos (by simp; omega)]
  simp
theorem toBlock_ev (b : Bool) (n : Int) (l : List S163) (h : l.length ≤ 1048576) : Ev (fun k => laws_toBlock.f k b n l) (b, n, l.map toLf) := by
  unfold laws_toBlock.f
  exact ev_bind (toLeafS_ev l h) (Ev.now _)
theorem toFlash_ev (l : List S144) (h : l.length ≤ 1048576) (hk : ∀ x ∈ l, x.f2.length ≤ 1048576) : Ev (fun k => laws_toFlash.f k l) (toFl l) := by
  have h1 := ev_fill_all (E := fun k i => (laws_toBlock.f k (rd_T144 l i).f0 (rd_T144 l i).f1 (rd_T144 l i).f2).bind fun bt => some (⟨bt.1, bt.2.1, bt.2.2⟩ : S112)) (l := l) (z := z144) (g := toBk) (xs := List.replicate l.length z112) (L := fun k xs i => laws_toBlockS.l0 k l xs i) (by omega) (fun k xs i => by
    simp only [laws_toBlockS.l0, Option.bind_assoc, Option.bind_some]) (fun i hi => by
      rw [rdLB_nat]
      exact ev_bind (toBlock_ev _ _ _ (hk _ (getD_mem' hi))) (Ev.now _)) (by simp)
  unfold laws_toFlash.f
  refine ev_bind (ev_ext (fun k => ?_) h1) (Ev.now _)
  unfold laws_toBlockS.f
  rw [if_pos (by omega), if_pos (by simp; omega)]
  simp

theorem eqLeafS_ev (l : List S114) (hn : l.length ≤ 1048576) : Ev (fun k => laws_eqLeafS.f k l l) true := by
  have h1 := ev_all (n := l.length) (m := l.length) (L := fun k i => laws_eqLeafS.l0 k l l i) (E := fun _ i => laws_eqLeaf.f (rd_T114 l i).f0 (rd_T114 l i).f1 (rd_T114 l i).f0 (rd_T114 l i).f1) (by omega) (Nat.le_refl _) (fun k i => by simp only [laws_eqLeafS.l0])
    (fun i _ => ev_const (by simp [laws_eqLeaf.f])) l.length 0 (by omega)
  refine ev_ext (fun k => ?_) h1
  unfold laws_eqLeafS.f
  rw [if_pos rfl]; rfl
theorem eqFlash_ev (l : List S112) (hn : l.length ≤ 1048576) (hk : ∀ x ∈ l, x.f2.length ≤ 1048576) : Ev (fun k => laws_eqFlash.f k l l) true := by
  have h1 := ev_all (n := l.length) (m := l.length) (L := fun k i => laws_eqBlockS.l0 k l l i) (E := fun k i => laws_eqBlock.f k (rd_T112 l i).f0 (rd_T112 l i).f1 (rd_T112 l i).f2 (rd_T112 l i).f0 (rd_T112 l i).f1 (rd_T112 l i).f2) (by omega) (Nat.le_refl _) (fun k i => by simp only [laws_eqBlockS.l0])
    (fun i hi => by
      rw [rdIB_nat]
      unfold laws_eqBlock.f
      simp only [bne_self_eq_false, Bool.false_eq_true, if_false, if_true]
      exact ev_bind (eqLeafS_ev _ (hk _ (getD_mem' hi))) (by simp only [if_true]; exact Ev.now _)) l.length 0 (by omega)
  unfold laws_eqFlash.f
  refine ev_bind (ev_ext (fun k => ?_) h1) (by simp only [if_true]; exact Ev.now _)
  unfold laws_eqBlockS.f
  rw [if_pos rfl]; rfl

theorem szLeafS_ev (l : List S163) (a : Int) (h0 : 0 ≤ a) (h1 : a ≤ 1048576) (hn : l.length ≤ 9223372036854775807) (hk : ∀ x ∈ l, x.f1.size ≤ 9223372036854775807) :
    ∃ r, Ev (fun k => laws_szLeafS.f k l a) r ∧ r ≤ a ∧ (0 ≤ r → (l.length : Int) ≤ a ∧ ∀ x ∈ l, (x.f1.size : Int) ≤ 1048576) := by
  by_cases h : a - (l.length : Int) < 0
  · refine ⟨-1, ⟨0, fun k _ => ?_⟩, by omega, fun h2 => by omega⟩
    show laws_szLeafS.f k l a = _
    unfold laws_szLeafS.f
    rw [w64 (by omega) (by omega), if_pos h]
  · obtain ⟨r, hr, hra, hq⟩ := ev_size (n := l.length) (L := fun k a i => laws_szLeafS.l0 k l a i) (E := fun _ i a => laws_szLeaf.f (rd_T163 l i).f0 (rd_T163 l i).f1 a) (P := fun i => ((l.getD i z163).f1.size : Int) ≤ 1048576) hn (fun k a i => by simp only [laws_szLeafS.l0])
      (fun i a hi h2 h3 => by
        have hb := hk _ (getD_mem' (z := z163) hi)
        rw [rdLL_nat]
        unfold laws_szLeaf.f
        rw [w64 (by omega) (by omega)]
        by_cases h4 : a - ((l.getD i z163).f1.size : Int) < 0
        · exact ⟨-1, ev_const (by rw [if_pos h4]), by omega, fun h5 => by omega⟩
        · exact ⟨_, ev_const (by rw [if_neg h4]), by omega, fun _ => by omega⟩) l.length 0 (a - (l.length : Int)) (by omega) (by omega) (by omega)
    refine ⟨r, ev_ext (fun k => ?_) hr, by omega, fun h2 => ⟨by omega, fun x hx => ?_⟩⟩
    · unfold laws_szLeafS.f
      rw [w64 (by omega) (by omega), if_neg h]; rfl
    · obtain ⟨i, hi, rfl⟩ := List.getElem_of_mem hx
      have := hq h2 i (by omega) hi
      rwa [List.getD_eq_getElem?_getD, List.getElem?_eq_getElem hi] at this
theorem szFlash_ev (l : List S144) (a : Int) (h0 : 0 ≤ a) (h1 : a ≤ 1048576) (hn : l.length ≤ 9223372036854775807) (hk : ∀ x ∈ l, x.f2.length ≤ 9223372036854775807 ∧ ∀ y ∈ x.f2, y.f1.size ≤ 9223372036854775807) :
    ∃ r, Ev (fun k => laws_szFlash.f k l a) r ∧ r ≤ a ∧ (0 ≤ r → (l.length : Int) ≤ a ∧ ∀ x ∈ l, (x.f2.length : Int) ≤ 1048576 ∧ ∀ y ∈ x.f2, (y.f1.size : Int) ≤ 1048576) := by
  by_cases h : a - (l.length : Int) < 0
  · refine ⟨-1, ⟨0, fun k _ => ?_⟩, by omega, fun h2 => by omega⟩
    show laws_szFlash.f k l a = _
    unfold laws_szFlash.f laws_szBlockS.f
    rw [w64 (by omega) (by omega), if_pos h]
    rfl
  · obtain ⟨r, hr, hra, hq⟩ := ev_size (n := l.length) (L := fun k a i => laws_szBlockS.l0 k l a i) (E := fun k i a => laws_szBlock.f k (rd_T144 l i).f0 (rd_T144 l i).f1 (rd_T144 l i).f2 a) (P := fun i => ((l.getD i z144).f2.length : Int) ≤ 1048576 ∧ ∀ y ∈ (l.getD i z144).f2, (y.f1.size : Int) ≤ 1048576) hn (fun k a i => by simp only [laws_szBlockS.l0])
      (fun i a hi h2 h3 => by
        have hb := hk _ (getD_mem' (z := z144) hi)
        rw [rdLB_nat]
        obtain ⟨t, ht, hta, hp⟩ := szLeafS_ev (l.getD i z144).f2 a h2 h3 hb.1 hb.2
        unfold laws_szBlock.f
        by_cases h4 : t < 0
        · exact ⟨-1, ev_bind ht (by simp only [if_pos h4]; exact Ev.now _), by omega, fun h5 => by omega⟩
        · exact ⟨t, ev_bind ht (by simp only [if_neg h4]; exact Ev.now _), hta, fun h5 => ⟨by have := (hp h5).1; omega, (hp h5).2⟩⟩) l.length 0 (a - (l.length : Int)) (by omega) (by omega) (by omega)
    have hr2 : Ev (fun k => laws_szBlockS.f k l a) r := by
      refine ev_ext (fun k => ?_) hr
      unfold laws_szBlockS.f
      rw [w64 (by omega) (by omega), if_neg h]; rfl
    have hp : 0 ≤ r → (l.length : Int) ≤ a ∧ ∀ x ∈ l, (x.f2.length : Int) ≤ 1048576 ∧ ∀ y ∈ x.f2, (y.f1.size : Int) ≤ 1048576 := fun h2 => ⟨by omega, fun x hx => by
      obtain ⟨i, hi, rfl⟩ := List.getElem_of_mem hx
      have := hq h2 i (by omega) hi
      rwa [List.getD_eq_getElem?_getD, List.getElem?_eq_getElem hi] at this⟩
    unfold laws_szFlash.f
    by_cases h4 : r < 0
    · exact ⟨-1, ev_bind hr2 (by simp only [if_pos h4]; exact Ev.now _), by omega, fun h5 => by omega⟩
    · exact ⟨r, ev_bind hr2 (by simp only [if_neg h4]; exact Ev.now _), by omega, hp⟩
/-- What a law on a flash begins with. -/
theorem flash_start {l : List S144} (hl : l.length ≤ maxLen) (hx : ∀ x ∈ l, x.f2.length ≤ maxLen ∧ ∀ y ∈ x.f2, y.f1.size ≤ maxLen) :
    ∃ r, Ev (fun k => laws_szFlash.f k l 1048576) r ∧ (0 ≤ r → Ev (fun k => laws_toFlash.f k l) (toFl l) ∧ Ev (fun k => laws_eqFlash.f k (toFl l) (toFl l)) true ∧ (toFl l).length ≤ 1048576 ∧ ∀ x ∈ toFl l, x.f2.length ≤ 1048576 ∧ ∀ y ∈ x.f2, y.f1.size ≤ 1048576) := by
  unfold maxLen at hl hx
  obtain ⟨r, hr, _, hq⟩ := szFlash_ev l 1048576 (by omega) (by omega) (by omega) (fun x h => ⟨by have := (hx x h).1; omega, fun y hy => by have := (hx x h).2 y hy; omega⟩)
  refine ⟨r, hr, fun h0 => ?_⟩
  obtain ⟨h1, h2⟩ := hq h0
  have hlen : (toFl l).length = l.length := by unfold toFl; exact List.length_map _
  have hm : ∀ x ∈ toFl l, x.f2.length ≤ 1048576 ∧ ∀ y ∈ x.f2, y.f1.size ≤ 1048576 := by
    intro x h
    unfold toFl at h
    obtain ⟨y, hy, rfl⟩ := List.mem_map.1 h
    obtain ⟨a1, a2⟩ := h2 y hy
    refine ⟨by show (y.f2.map toLf).length ≤ _; rw [List.length_map]; omega, fun z hz => ?_⟩
    obtain ⟨q, hq2, rfl⟩ := List.mem_map.1 (show z ∈ y.f2.map toLf from hz)
    have := a2 q hq2
    show q.f1.size ≤ _
    omega
  exact ⟨toFlash_ev l (by omega) (fun x h => by have := (h2 x h).1; omega), eqFlash_ev _ (by omega) (fun x h => (hm x h).1), by omega, hm⟩
end Go.Proofs.Ytijbejiajaiciaa.Pu

/- The blocks of a flash that are all blank, as one list; the program's and the reference's FreeBlocks tell it. -/
namespace Go.Proofs.Ytijbejiajaiciaa.Pu
set_option linter.unusedVariables false
set_option linter.unusedSimpArgs false
open Go.RowKit Go.Proofs.Ytijbejiajaiciaa.PC Go.Proofs.YtijbejiajaiciaaW.PrintWords

def blankF (x : S114) : Bool := decide (x.f0 = 0)
def freeK (x : S112) : Bool := !x.f0 && x.f2.all blankF
def freeB (f : List S112) : List Int := ((List.range' 0 f.length).filter fun i => freeK (f.getD i z112)).map fun (i : Nat) => (i : Int)
theorem freeB_le (f : List S112) : (freeB f).length ≤ f.length := by
  unfold freeB
  rw [List.length_map]
  exact Nat.le_trans (List.length_filter_le _ _) (by simp)
theorem take_succF {α : Type} {l : List α} {i : Nat} (z : α) (h : i < l.length) : l.take (i + 1) = l.take i ++ [l.getD i z] := by
  rw [List.take_succ_eq_append_getElem h, List.getD_eq_getElem?_getD, List.getElem?_eq_getElem h]; rfl
theorem drop_getF {α : Type} {l : List α} {i : Nat} (z : α) (h : i < l.length) : l.drop i = l.getD i z :: l.drop (i + 1) := by
  rw [List.drop_eq_getElem_cons h, List.getD_eq_getElem?_getD, List.getElem?_eq_getElem h]; rfl
theorem filter_all {α : Type} (p : α → Bool) : ∀ l : List α, (l.filter p).length = l.length ↔ l.all p = true
  | [] => by simp
  | x :: l => by
    have h := filter_all p l
    have hle := List.length_filter_le p l
    by_cases hp : p x = true
    · rw [List.filter_cons_of_pos hp, List.all_cons, hp, Bool.true_and, ← h, List.length_cons, List.length_cons]
      omega
    · have hp2 : p x = false := Bool.eq_false_iff.mpr hp
      rw [List.filter_cons_of_neg hp, List.all_cons, hp2, Bool.false_and, List.length_cons]
      constructor
      · intro h2; omega
      · intro h2; cases h2
theorem iBlanksF_ev (b : Bool) (n : Int) (ls : List S114) (hn : ls.length ≤ 1048576) : Ev (fun k => impl_blanks.f k b n ls) ((ls.filter blankF).length : Int) := by
  have main : ∀ (d i : Nat), i + d = ls.length → Ev (fun k => impl_blanks.l0 k (((ls.take i).filter blankF).length : Int) ls (ls.length : Int) (i : Int)) ((ls.filter blankF).length : Int) := by
    intro d
    induction d with
    | zero =>
      intro i hi
      refine ev_some fun k => ?_
      simp only [impl_blanks.l0]
      rw [if_neg (by omega), List.take_of_length_le (by omega)]
    | succ d ih =>
      intro i hi
      refine Ev.step (fun k => ?_) (ih (i + 1) (by omega))
      have hle : ((ls.take i).filter blankF).length ≤ i := Nat.le_trans (List.length_filter_le _ _) (by rw [List.length_take]; omega)
      rw [take_succF z114 (by omega), List.filter_append, List.length_append]
      simp only [impl_blanks.l0]
      rw [if_pos (by omega), if_pos (by omega), if_pos (by omega), rdIL_nat, wsucc (n := ls.length) (by omega) (by omega), w64 (by omega) (by omega)]
      by_cases h : (ls.getD i z114).f0 = 0
      · rw [if_pos h]
        have : blankF (ls.getD i z114) = true := decide_eq_true h
        simp only [List.filter_cons, if_pos this, List.filter_nil, List.length_cons, List.length_nil]
        rfl
      · rw [if_neg h]
        have : blankF (ls.getD i z114) = false := decide_eq_false h
        simp only [List.filter_cons, this, List.filter_nil, Bool.false_eq_true, if_false, List.length_nil]
        rfl
  exact main ls.length 0 (by omega)
theorem free_step (f : List S112) (i d : Nat) (acc : List Int) : acc ++ (((List.range' i (d + 1)).filter fun j => freeK (f.getD j z112)).map fun (j : Nat) => (j : Int)) = (if freeK (f.getD i z112) = true then acc ++ [(i : Int)] else acc) ++ (((List.range' (i + 1) d).filter fun j => freeK (f.getD j z112)).map fun (j : Nat) => (j : Int)) := by
  rw [List.range'_succ]
  by_cases h : freeK (f.getD i z112) = true
  · rw [if_pos h, List.filter_cons_of_pos (p := fun j => freeK (f.getD j z112)) (a := i) h, List.map_cons, List.append_assoc]; rfl
  · rw [if_neg h]
    rw [List.filter_cons_of_neg (p := fun j => freeK (f.getD j z112)) (a := i) h]
theorem iFree_ev (f : List S112) (hn : f.length ≤ 1048576) (hk : ∀ x ∈ f, x.f2.length ≤ 1048576) : Ev (fun k => impl_FreeBlocks.f k f) (freeB f) := by
  have main : ∀ (d i : Nat) (acc : List Int), i + d = f.length → acc.length ≤ i → Ev (fun k => impl_FreeBlocks.l0 k acc f (f.length : Int) (i : Int)) (acc ++ (((List.range' i d).filter fun j => freeK (f.getD j z112)).map fun (j : Nat) => (j : Int))) := by
    intro d
    induction d with
    | zero => intro i acc hi hl; exact ev_some fun k => by simp only [impl_FreeBlocks.l0]; rw [if_neg (by omega)]; simp
    | succ d ih =>
      intro i acc hi hl
      have hm : f.getD i z112 ∈ f := getD_mem' (by omega)
      rw [free_step]
      have hst : ∀ k, impl_FreeBlocks.l0 (k + 1) acc f (f.length : Int) (i : Int) = (if (f.getD i z112).f0 = true then impl_FreeBlocks.l0 k acc f (f.length : Int) ((i + 1 : Nat) : Int) else (impl_blanks.f k (f.getD i z112).f0 (f.getD i z112).f1 (f.getD i z112).f2).bind fun t => if t = ((f.getD i z112).f2.length : Int) then impl_FreeBlocks.l0 k (acc ++ [(i : Int)]) f (f.length : Int) ((i + 1 : Nat) : Int) else impl_FreeBlocks.l0 k acc f (f.length : Int) ((i + 1 : Nat) : Int)) := fun k => by
        simp only [impl_FreeBlocks.l0]
        rw [if_pos (by omega), if_pos (by omega), if_pos (by omega), rdIB_nat, wsucc (n := f.length) (by omega) (by omega)]
        simp only [if_pos (show acc.length < 17592186044416 by omega)]
      refine Ev.step hst ?_
      by_cases hb : (f.getD i z112).f0 = true
      · have hf : freeK (f.getD i z112) = false := by unfold freeK; rw [hb]; rfl
        simp only [if_pos hb, hf, Bool.false_eq_true, if_false]
        exact ih (i + 1) acc (by omega) (by omega)
      · simp only [if_neg hb]
        have hb2 : (f.getD i z112).f0 = false := Bool.eq_false_iff.mpr hb
        refine ev_bind (iBlanksF_ev _ _ _ (hk _ hm)) ?_
        have hall := filter_all blankF (f.getD i z112).f2
        by_cases ha : (f.getD i z112).f2.all blankF = true
        · have hf : freeK (f.getD i z112) = true := by unfold freeK; rw [hb2, ha]; rfl
          simp only [if_pos hf, if_pos (show ((((f.getD i z112).f2.filter blankF).length : Int)) = ((f.getD i z112).f2.length : Int) by have := hall.2 ha; omega)]
          exact ih (i + 1) _ (by omega) (by simp; omega)
        · have hf : freeK (f.getD i z112) = false := by unfold freeK; rw [hb2, Bool.eq_false_iff.mpr ha]; rfl
          simp only [hf, Bool.false_eq_true, if_false, if_neg (show ¬ ((((f.getD i z112).f2.filter blankF).length : Int)) = ((f.getD i z112).f2.length : Int) from fun h => ha (hall.1 (by omega)))]
          exact ih (i + 1) acc (by omega) (by omega)
  have h := main f.length 0 [] (by omega) (by simp)
  rw [List.nil_append] at h
  exact h
theorem sFree_ev (f : List S112) (hn : f.length ≤ 1048576) (hk : ∀ x ∈ f, x.f2.length ≤ 1048576) : Ev (fun k => spec_FreeBlocks.f k f) (freeB f) := by
  have inner : ∀ (acc : List Int) (i : Nat), i < f.length → acc.length ≤ i → ∀ r, Ev (fun k => spec_FreeBlocks.l0 k (if freeK (f.getD i z112) = true then acc ++ [(i : Int)] else acc) ((i + 1 : Nat) : Int) f) r →
      ∀ (d j : Nat) (c : Bool), j + d = (f.getD i z112).f2.length → (c && ((f.getD i z112).f2.drop j).all blankF) = freeK (f.getD i z112) → Ev (fun k => spec_FreeBlocks.l1 k acc (i : Int) c (j : Int) f) r := by
    intro acc i hi hl r hr d
    have hm : f.getD i z112 ∈ f := getD_mem' hi
    have hkm := hk _ hm
    induction d with
    | zero =>
      intro j c hj hc
      rw [List.drop_eq_nil_of_le (by omega)] at hc
      simp only [List.all_nil, Bool.and_true] at hc
      refine Ev.step (fun k => ?_) hr
      simp only [spec_FreeBlocks.l1]
      rw [if_pos (by omega), if_pos (by omega), rdIB_nat, if_neg (by omega), wsucc (n := f.length) (by omega) (by omega), hc]
      by_cases h : freeK (f.getD i z112) = true
      · rw [if_pos h, if_pos h, if_pos (by omega)]
      · rw [if_neg h, if_neg h]
    | succ d ih =>
      intro j c hj hc
      rw [drop_getF z114 (by omega), List.all_cons] at hc
      by_cases hcc : c = true
      · subst hcc
        refine Ev.step (fun k => ?_) (ih (j + 1) (((f.getD i z112).f2.getD j z114).f0 == 0) (by omega) (by rw [← hc, Bool.true_and]; rfl))
        simp only [spec_FreeBlocks.l1]
        rw [if_pos (by omega), if_pos (by omega), rdIB_nat, if_pos (by omega), if_pos (by decide), if_pos (by omega), rdIL_nat, wsucc (n := (f.getD i z112).f2.length) (by omega) (by omega)]
      · obtain rfl : c = false := Bool.eq_false_iff.mpr hcc
        refine Ev.step (fun k => ?_) (ih (j + 1) false (by omega) (by rw [← hc]; rfl))
        simp only [spec_FreeBlocks.l1]
        rw [if_pos (by omega), if_pos (by omega), rdIB_nat, if_pos (by omega), if_neg (by decide), wsucc (n := (f.getD i z112).f2.length) (by omega) (by omega)]
  have main : ∀ (d i : Nat) (acc : List Int), i + d = f.length → acc.length ≤ i → Ev (fun k => spec_FreeBlocks.l0 k acc (i : Int) f) (acc ++ (((List.range' i d).filter fun j => freeK (f.getD j z112)).map fun (j : Nat) => (j : Int))) := by
    intro d
    induction d with
    | zero => intro i acc hi hl; exact ev_some fun k => by simp only [spec_FreeBlocks.l0]; rw [if_neg (by omega)]; simp
    | succ d ih =>
      intro i acc hi hl
      rw [free_step]
      refine Ev.step (f := fun k => spec_FreeBlocks.l1 k acc (i : Int) (!(f.getD i z112).f0) 0 f) (fun k => ?_) (inner acc i (by omega) hl _ (ih (i + 1) _ (by omega) (by split <;> (try simp only [List.length_append, List.length_cons, List.length_nil]) <;> omega)) (f.getD i z112).f2.length 0 _ (by omega) (by simp [freeK]))
      simp only [spec_FreeBlocks.l0]
      rw [if_pos (by omega), if_pos (by omega), rdIB_nat]
  have h := main f.length 0 [] (by omega) (by simp)
  rw [List.nil_append] at h
  exact h
end Go.Proofs.Ytijbejiajaiciaa.Pu

/- Marks: what a row's places are marked with is held there again, and the count goes on alike. -/
namespace Go.Proofs.Ytijbejiajaiciaa.Pu
set_option linter.unusedVariables false
set_option linter.unusedSimpArgs false
open Go.RowKit Go.Proofs.Ytijbejiajaiciaa.PC Go.Proofs.YtijbejiajaiciaaW.PrintWords

theorem getD_set_self {α : Type} {xs : List α} {i : Nat} {x z : α} (h : i < xs.length) : (xs.set i x).getD i z = x := by
  rw [List.getD_eq_getElem?_getD, List.getElem?_set_self h]; rfl
theorem getD_set_ne {α : Type} {xs : List α} {i j : Nat} {x z : α} (h : i ≠ j) : (xs.set i x).getD j z = xs.getD j z := by
  rw [List.getD_eq_getElem?_getD, List.getD_eq_getElem?_getD, List.getElem?_set_ne h]
/-- A row that is marked place by place, and held so. -/
theorem ev_mark {α : Type} (z : α) {L : Nat → List α → Int → Int → Option (Int × List α)} {Hd : Nat → List α → Int → Int → Option Int} (E : Nat → α → Int → Option (Int × α)) (G : Nat → α → Int → Option Int) (c : Int) (P : α → Prop)
    (hL : ∀ k (xs : List α) (a : Int) (i : Nat), i < xs.length → 0 ≤ a → a + c ≤ 4611686018427387904 → L (k + 1) xs a (i : Int) = (E k (xs.getD i z) a).bind fun b => L k (xs.set i b.2) b.1 (wrap64 ((i : Int) + 1)))
    (hL0 : ∀ k (xs : List α) (a : Int) (i : Nat), xs.length ≤ i → L (k + 1) xs a (i : Int) = some (a, xs))
    (hH : ∀ k (xs : List α) (a : Int) (i : Nat), i < xs.length → 0 ≤ a → a + c ≤ 4611686018427387904 → Hd (k + 1) xs a (i : Int) = (G k (xs.getD i z) a).bind fun t => if t < 0 then some (-1) else Hd k xs t (wrap64 ((i : Int) + 1)))
    (hH0 : ∀ k (xs : List α) (a : Int) (i : Nat), xs.length ≤ i → Hd (k + 1) xs a (i : Int) = some a)
    (hc : 0 ≤ c)
    (hE : ∀ x a, P x → 0 ≤ a → a + c ≤ 4611686018427387904 → ∃ a' x', Ev (fun k => E k x a) (a', x') ∧ Ev (fun k => G k x' a) a' ∧ a ≤ a' ∧ a' ≤ a + c) :
    ∀ (d i : Nat) (xs : List α) (a : Int), i + d = xs.length → xs.length ≤ 9223372036854775807 → (∀ j, i ≤ j → j < xs.length → P (xs.getD j z)) → 0 ≤ a → a + d * c ≤ 4611686018427387904 →
      ∃ a' xs', xs'.length = xs.length ∧ (∀ j, j < i → xs'.getD j z = xs.getD j z) ∧ Ev (fun k => L k xs a (i : Int)) (a', xs') ∧ Ev (fun k => Hd k xs' a (i : Int)) a' ∧ a ≤ a' ∧ a' ≤ a + d * c := by
  intro d
  induction d with
  | zero =>
    intro i xs a hi hn hP ha hM
    exact ⟨a, xs, rfl, fun _ _ => rfl, ev_some fun k => hL0 k xs a i (by omega), ev_some fun k => hH0 k xs a i (by omega), Int.le_refl _, by simp⟩
  | succ d ih =>
    intro i xs a hi hn hP ha hM
    have hdc : 0 ≤ (d : Int) * c := Int.mul_nonneg (by omega) hc
    have hds : ((d + 1 : Nat) : Int) * c = (d : Int) * c + c := by rw [Int.natCast_add, Int.add_mul]; simp
    rw [hds] at hM
    obtain ⟨a1, x1, hE1, hG1, h1, h2⟩ := hE (xs.getD i z) a (hP i (Nat.le_refl _) (by omega)) ha (by omega)
    have hlen : (xs.set i x1).length = xs.length := List.length_set
    obtain ⟨a', xs', hl', hb', hL', hH', h3, h4⟩ := ih (i + 1) (xs.set i x1) a1 (by rw [hlen]; omega) (by rw [hlen]; exact hn) (fun j hj hj2 => by
      rw [hlen] at hj2
      rw [getD_set_ne (by omega)]
      exact hP j (by omega) hj2) (by omega) (by omega)
    have hxi : xs'.getD i z = x1 := by rw [hb' i (by omega), getD_set_self (by omega)]
    refine ⟨a', xs', by rw [hl', hlen], fun j hj => by rw [hb' j (by omega), getD_set_ne (by omega)], ?_, ?_, by omega, by rw [hds]; omega⟩
    · refine Ev.step (fun k => hL k xs a i (by omega) ha (by omega)) (ev_bind hE1 ?_)
      simp only [wsucc (n := xs.length) (i := i) (by omega) hn]
      exact hL'
    · refine Ev.step (fun k => hH k xs' a i (by rw [hl', hlen]; omega) ha (by omega)) ?_
      rw [hxi]
      refine ev_bind hG1 ?_
      simp only [if_neg (show ¬ a1 < 0 by omega), wsucc (n := xs.length) (i := i) (by omega) hn]
      exact hH'

/-- Whole numbers. -/
theorem mark_int (l : List Int) (a : Int) (hn : (l.length : Int) ≤ 1099511627776) (ha : 0 ≤ a) (hM : a + l.length ≤ 4611686018427387904) :
    ∃ a' l', l'.length = l.length ∧ Ev (fun k => laws_markIntS.f k l a) (a', l') ∧ Ev (fun k => laws_heldIntS.f k l' a) a' ∧ a ≤ a' ∧ a' ≤ a + l.length := by
  obtain ⟨a', l', h1, _, h2, h3, h4, h5⟩ := ev_mark (0 : Int) (L := fun k xs a i => laws_markIntS.l0 k xs a i) (Hd := fun k xs a i => laws_heldIntS.l0 k xs a i)
    (fun _ _ a => some (wrap64 (a + 1), a)) (fun _ x a => if x = a then some (wrap64 (a + 1)) else some (-1)) 1 (fun _ => True)
    (fun k xs a i hi _ _ => by
      simp only [laws_markIntS.l0]
      rw [if_pos (by omega), if_pos (by omega)]
      rfl)
    (fun k xs a i hi => by
      simp only [laws_markIntS.l0]
      rw [if_neg (by omega)])
    (fun k xs a i hi h0 h1 => by
      simp only [laws_heldIntS.l0]
      rw [if_pos (by omega), if_pos (by omega)]
      show (if xs.getD i 0 = a then _ else _) = _
      by_cases h : xs.getD i 0 = a
      · rw [if_pos h, if_pos h, w64 (by omega) (by omega)]
        simp only [Option.bind_some]
        rw [if_neg (by omega)]
      · rw [if_neg h, if_neg h]
        rfl)
    (fun k xs a i hi => by
      simp only [laws_heldIntS.l0]
      rw [if_neg (by omega)])
    (by omega)
    (fun x a _ h0 h1 => ⟨a + 1, a, ev_const (by rw [w64 (by omega) (by omega)]), ev_const (by rw [if_pos rfl, w64 (by omega) (by omega)]), by omega, by omega⟩)
    l.length 0 l a (by omega) (by omega) (fun _ _ _ => trivial) ha (by omega)
  exact ⟨a', l', h1, h2, h3, h4, by omega⟩
end Go.Proofs.Ytijbejiajaiciaa.Pu
