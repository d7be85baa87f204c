/- FnPlacesOf: functions of the translation as Lean functions with what their calls come to, plain lemmas on them, and, at the end, the row. Parts of one proof, merged by a program of this session; each part's own sentence stands at its head. -/
import Derived.Test.YtcpgpchdplpfiaaMFnPlacesOfa
/- Functions of the translation as plain Lean functions, and for each that its call comes to just what its Lean function answers; its conditions stand in each theorem. Written by a program of this session. -/
namespace Go.Proofs.Ytcpgpchdplpfiaa.PF
open Go.RowKit Go.Proofs.YtcpgpchdplpfiaaW.PrintWords Go.Proofs.YtcpgpchdplpfiaaW.PrintLast Go.Proofs.YtcpgpchdplpfiaaW.PrintMore
attribute [local go_sem] max2_int min2_int max_two min_two max_three min_three max_four min_four   -- for this text's walks alone
set_option linter.unusedVariables false
set_option linter.unusedSimpArgs false

/-! ### spec_FlashNew: function 96 -/
def spec_FlashNew.l0 : Nat → Int → Int → List (S49) → Option ((List (S49)) × Bool)
  | 0, _, _, _ => none
  | k + 1, x0, x5, x181000 => if x5 < x0 then (if 4 ≤ 11728124029610 then (if x181000.length < 3518437208883 then (spec_FlashNew.l0 k x0 (wrap64 (x5 + 1)) (x181000 ++ [(⟨false, 0, (List.replicate 4 z103)⟩ : S49)])) else (none)) else (none)) else (some (x181000, true))
def spec_FlashNew.f (k : Nat) (a0 : Int) : Option ((List (S49)) × Bool) := (spec_l01In.f a0 3 10).bind fun t179 => (if t179 = true then (spec_FlashNew.l0 k a0 0 ([] : List (S49))) else (some (([] : List (S49)), false)))
theorem spec_FlashNew.mono_l : ∀ k, (∀ y0 y1 y2, LeO (spec_FlashNew.l0 k y0 y1 y2) (spec_FlashNew.l0 (k + 1) y0 y1 y2))
  | 0 => fun _ _ _ r h => by simp [spec_FlashNew.l0] at h
  | k + 1 => by
    have ih0 := spec_FlashNew.mono_l k
    · intro y0 y1 y2
      unfold spec_FlashNew.l0
      repeat' first
      | (with_reducible exact ih0 _ _ _)
      | (with_reducible exact LeO.refl _)
      | (with_reducible exact LeO.none _)
      | (with_reducible refine LeO.ite ?_ ?_)
      | (with_reducible refine LeO.bind ?_ (fun _ => ?_))
      | exact ih0 _ _ _
      | exact LeO.none _
      | refine LeO.ite ?_ ?_
      | refine LeO.bind ?_ (fun _ => ?_)
theorem spec_FlashNew.mono : ∀ a0 k, LeO (spec_FlashNew.f k a0) (spec_FlashNew.f (k + 1) a0) := by
  intro a0 k
  have ih0 := spec_FlashNew.mono_l k
  unfold spec_FlashNew.f
  repeat' first
      | (with_reducible exact ih0 _ _ _)
      | (with_reducible exact LeO.refl _)
      | (with_reducible exact LeO.none _)
      | (with_reducible refine LeO.ite ?_ ?_)
      | (with_reducible refine LeO.bind ?_ (fun _ => ?_))
      | exact ih0 _ _ _
      | exact LeO.none _
      | refine LeO.ite ?_ ?_
      | refine LeO.bind ?_ (fun _ => ?_)
def spec_FlashNew.T7 : Bool × List (List Nat × List Nat) := (true, [([], []), ([0], [0]), ([], []), ([2], [2]), ([3], [3]), ([1, 4], [1, 4]), ([0, 1, 2, 3, 4, 5], []), ([6, 5, 5, 0, 1, 2, 3, 4, 5], [5, 6])])
def spec_FlashNew.B7 : List Nat := [0, 1, 0, 4, 12, 31, 63, 127]
theorem spec_FlashNew.tab7 : rtab .any (opsOf Try.f96 7) = spec_FlashNew.T7 := by kernel_rfl
theorem spec_FlashNew.bits7 : waitsOk spec_FlashNew.T7.2 spec_FlashNew.B7 = true := by kernel_rfl
set_option maxHeartbeats 8000000 in
set_option maxRecDepth 100000 in
theorem spec_FlashNew.calls (k : Nat) (a0 : Int) (r1 : List (S49)) (r2 : Bool) (w : World) (h : spec_FlashNew.f k a0 = some (r1, r2)) :
    Calls Try.prog 96 #[.int .i64 a0] w fun e w' => ∃ v0_ : Value, e = .returned (.tuple #[.agg #[v0_], .bool r2]) ∧ Kd.S k49 49 w' w.heap.size (fun _ => True) v0_ r1 ∧ Below w.heap.size w w' := by
  have hu40 := Try.underlying40
  have hu49 := Try.underlying49
  have HB := Aside0.mk (Below.refl w.heap.size w)
  have H : ((spec_l01In.f a0 3 10).bind fun t179 => (if t179 = true then (spec_FlashNew.l0 k a0 0 ([] : List (S49))) else (some (([] : List (S49)), false)))) = some (r1, r2) := h
  clear h
  replace H := Option.bind_eq_some_iff.mp H
  obtain ⟨t179, A20, H⟩ := H
  replace H : (if t179 = true then (spec_FlashNew.l0 k a0 0 ([] : List (S49))) else (some (([] : List (S49)), false))) = some (r1, r2) := H
  have A2 := Aside0.mk A20
  clear A20
  by_cases c3 : t179 = true
  · subst c3
    have H1 : (spec_FlashNew.l0 k a0 0 ([] : List (S49))) = some (r1, r2) := by rw [if_pos rfl] at H; exact H
    clear H
    have H := H1
    clear H1
    have H' := Aside0.mk H
    clear H
    go_enter Try.func96, Try.ntmps96
    go_wp2_with (first | ((with_reducible refine gate_dst (N := 2) rfl ?_); refine box_event ?hg (N := 2) ?hd (cs := #[.slice none 0 0]) (t := 40) ?hr ?_; (case hd => rfl); (case hg => rfl); (case hr => first | (go_simp; done) | (go_simp; rfl)); intro gb178 hg w4 hbox hb; have n0_ := Aside0.mk (below_step (by repeat (first | (with_reducible first | exact HB.out | apply below_alloc | apply pw_below_drewN | apply below_drew1) | exact HB.out)) hb); have n1_ := Aside0.mk (hbox); have n2_ := Aside0.mk ((by rw [hg]; exact (below_size (by repeat (first | (with_reducible first | exact HB.out | apply below_alloc | apply pw_below_drewN | apply below_drew1) | exact HB.out))) : w.heap.size ≤ gb178)); have n3_ := Aside0.mk ((by rw [hg]; exact (below_size (by repeat (first | (with_reducible first | exact HB.out | apply below_alloc | apply pw_below_drewN | apply below_drew1) | exact HB.out))) : w.heap.size ≤ gb178)); clear HB; have HB := n0_; have BK178 := n1_; have GW178 := n2_; have GE178 := n3_; clear n0_ n1_ n2_ n3_; clear hb hbox hg) | ((with_reducible refine gate_callee (f := 66) rfl ?_); refine goesL_ (some 7) rfl rfl Try.func66 (by kernel_rfl) rfl #[.int .i64 a0, .int .i64 3, .int .i64 10] rfl (by (try simp only [List.map_toArray, List.map_cons, List.map_nil]); first | done | rfl | (simp only [List.length_drop, List.length_take]; rfl)) ?_; (with_reducible refine (spec_l01In.calls a0 3 10 true _ A2.out).mono ?_); rintro e w' ⟨rfl, ⟨nd, rfl⟩⟩; refine ⟨_, rfl, ?_⟩; (try (rw [drewN_self w4]; generalize hq_ : World.drewN w4 _ = w4; have n0_ : Aside0 (w4.heap[gb178]? = some (.cells #[.slice none 0 0] 40 (0, 0))) := ⟨by rw [← hq_]; exact (by (with_reducible repeat (first | refine blk_drewN ?_ _ | refine blk_drew ?_ | refine blk_alloc ?_ _)); exact BK178.out)⟩; have n1_ : Aside0 (Below w.heap.size w w4) := ⟨by rw [← hq_]; exact (by repeat (first | (with_reducible first | exact HB.out | apply below_alloc | apply pw_below_drewN | apply below_drew1 | refine below_set ?_ GE178.out) | exact HB.out))⟩; clear BK178 HB hq_; have BK178 := n0_; have HB := n1_; clear n0_ n1_))) | ((with_reducible refine gate_dst (N := 4) rfl ?_); refine box_event ?hg (N := 4) ?hd (cs := #[.slice none 0 0]) (t := 40) ?hr ?_; (case hd => rfl); (case hg => rfl); (case hr => first | (go_simp; done) | (go_simp; rfl)); intro gb180 hg w5 hbox hb; have n0_ := Aside0.mk (blk_below (g := gb178) (o := .cells #[.slice none 0 0] 40 (0, 0)) (by (with_reducible repeat (first | refine blk_drewN ?_ _ | refine blk_drew ?_ | refine blk_alloc ?_ _)); exact BK178.out) hb); have n1_ := Aside0.mk (below_step (by repeat (first | (with_reducible first | exact HB.out | apply below_alloc | apply pw_below_drewN | apply below_drew1 | refine below_set ?_ GE178.out) | exact HB.out)) hb); have n2_ := Aside0.mk (hbox); have n3_ := Aside0.mk ((by rw [hg]; exact (below_size (by repeat (first | (with_reducible first | exact HB.out | apply below_alloc | apply pw_below_drewN | apply below_drew1 | refine below_set ?_ GE178.out) | exact HB.out))) : w.heap.size ≤ gb180)); have n4_ := Aside0.mk ((by rw [hg]; exact (below_size (by repeat (first | (with_reducible first | exact HB.out | apply below_alloc | apply pw_below_drewN | apply below_drew1 | refine below_set ?_ GE178.out) | exact HB.out))) : w.heap.size ≤ gb180)); have n5_ := Aside0.mk ((by rw [hg]; exact Nat.ne_of_lt (blk_lt (g := gb178) (o := .cells #[.slice none 0 0] 40 (0, 0)) (by (with_reducible repeat (first | refine blk_drewN ?_ _ | refine blk_drew ?_ | refine blk_alloc ?_ _)); exact BK178.out)) : gb178 ≠ gb180)); have n6_ := Aside0.mk ((by rw [hg]; exact Nat.ne_of_gt (blk_lt (g := gb178) (o := .cells #[.slice none 0 0] 40 (0, 0)) (by (with_reducible repeat (first | refine blk_drewN ?_ _ | refine blk_drew ?_ | refine blk_alloc ?_ _)); exact BK178.out)) : gb180 ≠ gb178)); clear BK178; clear HB; have BK178 := n0_; have HB := n1_; have BK180 := n2_; have GW180 := n3_; have GE180 := n4_; have NB178_180 := n5_; have NB180_178 := n6_; clear n0_ n1_ n2_ n3_ n4_ n5_ n6_; clear hb hbox hg; have hnb6 := NB180_178.out; have hnc6 := NB178_180.out; have hcz7_0 : w5.cell? ⟨gb180, 0, none⟩ = some (.slice none 0 0) := (blk_cell BK180.out 0).trans rfl; have hfz7_0 := blk_frozen BK180.out 0))
    go_loopg [5] k (fun kq v5 w' => ∃ (x5_1 : Int) (x181000_1 : List (S49)) (u181000 : Value), v5 = .int .i64 x5_1 ∧ Aside0 (spec_FlashNew.l0 kq a0 x5_1 x181000_1 = some (r1, r2)) ∧ Aside0 (kq ≤ k) ∧ Aside0 (Kd.S k49 49 w' w.heap.size (fun _ => True) u181000 x181000_1) ∧ Aside0 (w'.heap[gb178]? = some (.cells #[(.slice none 0 0)] 40 (0, 0))) ∧ Aside0 (w'.heap[gb180]? = some (.cells #[u181000] 40 (0, 0))) ∧ Aside0 (Below w.heap.size w w'))
    case atStart => exact ⟨(0), (([] : List (S49))), (.slice none 0 0), (by first | rfl | (simp; done) | (simp [*]; done)), H', ⟨Nat.le_refl _⟩, ⟨by first | exact Kd.S_nil _ _ _ _ _ | exact Kd.N_nil _ _ _ _ _ | exact Kd.V_nil _ _ _ _ _ | exact Kd.Q_nil _ _ _ _ _ | exact Kd.R_nil _ _ _ _ _⟩, ⟨by (with_reducible repeat (first | refine blk_drewN ?_ _ | refine blk_drew ?_ | refine blk_alloc ?_ _)); refine blk_far ?_ NB178_180.out _; (with_reducible repeat (first | refine blk_drewN ?_ _ | refine blk_drew ?_ | refine blk_alloc ?_ _)); exact BK178.out⟩, ⟨by (with_reducible repeat (first | refine blk_drewN ?_ _ | refine blk_drew ?_ | refine blk_alloc ?_ _)); refine blk_put (cs := #[.slice none 0 0]) ?_ 0 _ rfl; (with_reducible repeat (first | refine blk_drewN ?_ _ | refine blk_drew ?_ | refine blk_alloc ?_ _)); exact BK180.out⟩, ⟨by repeat (first | (with_reducible first | exact HB.out | apply below_alloc | apply pw_below_drewN | apply below_drew1 | refine below_set ?_ GE178.out | refine below_set ?_ GE180.out) | exact HB.out)⟩⟩
    case round =>
      clear H'
      try clear p2
      try clear c3
      try clear c6
      try clear hcz7_0
      try clear hfz7_0
      obtain ⟨x5_1, x181000_1, u181000, rfl, HA, HK1, HO_181000, BK178, BK180, HB⟩ := hrel
      cases gk with
      | zero => exact absurd HA.out (by simp [spec_FlashNew.l0])
      | succ k1 =>
        have H := HA.out
        clear HA
        simp only [spec_FlashNew.l0] at H
        by_cases c8 : x5_1 < a0
        · rw [if_pos c8] at H
          have c8b0 : decide (x5_1 < a0) = true := decide_eq_true c8
          clear c8
          by_cases c9 : 4 ≤ 11728124029610
          · rw [if_pos c9] at H
            have c9b0 := eq_true c9
            have c9b1 : decide (4 ≤ 11728124029610) = true := decide_eq_true c9
            clear c9
            obtain ⟨y181, hy181⟩ : ∃ y_ : List (S103), y_ = (List.replicate 4 z103) := ⟨_, rfl⟩
            replace H : (if x181000_1.length < 3518437208883 then (spec_FlashNew.l0 k1 a0 (wrap64 (x5_1 + 1)) (x181000_1 ++ [(⟨false, 0, y181⟩ : S49)])) else (none)) = some (r1, r2) := by first | (rw [hy181]; with_reducible exact H) | (have H2_ := (Option.bind_some _ _).symm.trans H; rw [hy181]; with_reducible exact H2_) | (have H2_ := (Option.bind_some _ _).symm.trans H; with_reducible exact H2_) | with_reducible exact H | (rw [hy181]; exact H) | exact H
            have Ny181 := Aside0.mk hy181
            clear hy181
            by_cases c10 : x181000_1.length < 3518437208883
            · rw [if_pos c10] at H
              have LMc10 := Aside0.mk c10
              clear c10
              obtain ⟨y184, hy184⟩ : ∃ y_ : List (S49), y_ = (x181000_1 ++ [(⟨false, 0, y181⟩ : S49)]) := ⟨_, rfl⟩
              replace H : (spec_FlashNew.l0 k1 a0 (wrap64 (x5_1 + 1)) y184) = some (r1, r2) := by first | (rw [hy184]; with_reducible exact H) | (have H2_ := (Option.bind_some _ _).symm.trans H; rw [hy184]; with_reducible exact H2_) | (have H2_ := (Option.bind_some _ _).symm.trans H; with_reducible exact H2_) | with_reducible exact H | (rw [hy184]; exact H) | exact H
              have Ny184 := Aside0.mk hy184
              clear hy184
              have H' := Aside0.mk H
              clear H
              try go_wp2
              have n0_ := Aside0.mk (Kd.S_drew HO_181000.out)
              have n1_ := Aside0.mk (blk_drew BK178.out)
              have n2_ := Aside0.mk (blk_drew BK180.out)
              have n3_ := Aside0.mk (below_drew1 HB.out)
              clear HO_181000
              clear BK178
              clear BK180
              clear HB
              have HO_181000 := n0_
              have BK178 := n1_
              have BK180 := n2_
              have HB := n3_
              clear n0_ n1_ n2_ n3_
              refine start_ (n := 8) (S := fun w' => w'.cell? ⟨gb180, 0, none⟩ = some (u181000)) (ds := [7]) #[false, false, false, false, false, false, false, false] (by kernel_rfl) rfl rfl ((blk_cell BK180.out 0).trans rfl) (fun hHeld => ?_); refine with_tabW spec_FlashNew.tab7 spec_FlashNew.bits7 (fun HT_ HW_ => ?_)
              generalize wr.drew = w11 at HO_181000 BK178 BK180 HB hHeld ⊢
              refine pure_ (i := 0) (N := some 16) (v := ?_) (a' := ?_) #[true, false, false, false, false, false, false, false] rfl rfl (any_of HT_.out (by kernel_rfl)) (fun _ _ _ h => h) (Or.inl ⟨by rfl, ?_⟩) ?_ ?_
              rotate_left
              · intro w'
                go_simp
                with_reducible rfl
              rotate_left
              · simp only [Act.put, List.setIfInBounds_toArray, List.set_cons_zero, List.set_cons_succ, i64_w, i32_w]
                rfl
              refine take_ (i := 1) (N := some 17) (v := ?_) (a' := ?_) #[true, true, false, false, false, false, false, false] rfl rfl (take_ofW HT_.out HW_.out (by kernel_rfl)) (fun _ _ _ h => h) (Or.inl ⟨by rfl, ?_⟩) hHeld ?_ ?_
              rotate_left
              · intro w' s0
                go_simp
                with_reducible rfl
              rotate_left
              · simp only [Act.put, List.setIfInBounds_toArray, List.set_cons_zero, List.set_cons_succ, i64_w, i32_w]
                rfl
              refine one_ (i := 2) (N := some 18) #[true, true, true, false, false, false, false, false] rfl rfl (one_of HT_.out (by kernel_rfl)) (by decide) (fun K hK => ?_)
              refine Kd.R_make_step k103 _ 103 (by rfl) (N := 18) rfl 47 _ _ rfl 4 rfl rfl Try.underlying47 (.agg #[(.int .i64 0), (.string ⟨#[]⟩)]) 24 info103 rfl (by decide) (by omega) z103 (ok := fun _ => True) (okp := fun _ => True) (k103_mkM _ _ _ z103 ) (fun _ hk => hk) trivial (by omega) (by omega) (Below.refl _ _) (Nat.le_refl _) ?_
              intro v182 w12 ho13 hb hg_ hnew_
              clear hg_ hnew_
              (first | rw [← Ny181.out] at ho13 | (simp only [Int.reduceToNat] at ho13; rw [← Ny181.out] at ho13))
              have n0_ := Aside0.mk (Kd.S_elder' (by (with_reducible repeat (first | apply Kd.S_alloc | apply Kd.S_drewN | apply Kd.S_drew)); exact HO_181000.out) (Kd.R_base ho13) hb)
              have n1_ := Aside0.mk (Kd.R_lower ho13 (below_size (by repeat (first | (with_reducible first | exact HB.out | apply below_alloc | apply pw_below_drewN | apply below_drew1 | refine below_set ?_ GE178.out | refine below_set ?_ GE180.out) | exact HB.out))))
              have n2_ := Aside0.mk (blk_below (g := gb178) (o := .cells #[.slice none 0 0] 40 (0, 0)) (by (with_reducible repeat (first | refine blk_drewN ?_ _ | refine blk_drew ?_ | refine blk_alloc ?_ _)); exact BK178.out) hb)
              have n3_ := Aside0.mk (blk_below (g := gb180) (o := .cells #[u181000] 40 (0, 0)) (by (with_reducible repeat (first | refine blk_drewN ?_ _ | refine blk_drew ?_ | refine blk_alloc ?_ _)); exact BK180.out) hb)
              have n4_ := Aside0.mk (below_step (by repeat (first | (with_reducible first | exact HB.out | apply below_alloc | apply pw_below_drewN | apply below_drew1 | refine below_set ?_ GE178.out | refine below_set ?_ GE180.out) | exact HB.out)) hb)
              clear HO_181000
              clear BK178
              clear BK180
              clear HB
              have HO_181000 := n0_
              have HO183 := n1_
              have BK178 := n2_
              have BK180 := n3_
              have HB := n4_
              clear n0_ n1_ n2_ n3_ n4_
              clear hb ho13
              obtain ⟨Ao14, co14, eo14⟩ := Kd.R_slice HO183.out
              (first | subst eo14 | (injection eo14 with f1_ f2_ f3_; have f4_ := f1_.symm; have f5_ := f3_.symm; clear f1_ f2_ f3_; subst f4_; subst f5_))
              refine hK.out _ _ ((blk_cell BK180.out 0).trans rfl) (fun hHeld => ?_)
              clear hK K
              refine norm_ (a' := ?_) ?_ ?_
              rotate_left
              · show Act.put _ (some 18) _ = _
                simp only [Act.put, List.setIfInBounds_toArray, List.set_cons_zero, List.set_cons_succ, i64_w, i32_w]
                rfl
              refine pure_ (i := 3) (N := some 19) (v := ?_) (a' := ?_) #[true, true, true, true, false, false, false, false] rfl rfl (any_of HT_.out (by kernel_rfl)) (fun _ _ _ h => h) (Or.inl ⟨by rfl, ?_⟩) ?_ ?_
              rotate_left
              · intro w'
                go_simp
                with_reducible rfl
              rotate_left
              · simp only [Act.put, List.setIfInBounds_toArray, List.set_cons_zero, List.set_cons_succ, i64_w, i32_w]
                rfl
              refine one_ (i := 4) (N := some 20) #[true, true, true, true, true, false, false, false] rfl rfl (one_of HT_.out (by kernel_rfl)) (by decide) (fun K hK => ?_)
              refine value_ (w1 := ?_) (v := ?_) (by rfl) rfl ?_ ?_
              rotate_left 2
              · go_simp
                constructor
                · rfl
                · rfl
              refine hK.out _ _ ((blk_cell (blk_alloc BK180.out _) 0).trans rfl) (fun hHeld => ?_)
              clear hK K
              refine norm_ (a' := ?_) ?_ ?_
              rotate_left
              · show Act.put _ (some 20) _ = _
                simp only [Act.put, List.setIfInBounds_toArray, List.set_cons_zero, List.set_cons_succ, i64_w, i32_w]
                rfl
              refine one_ (i := 5) (N := some 21) #[true, true, true, true, true, true, false, false] rfl rfl (one_of HT_.out (by kernel_rfl)) (by decide) (fun K hK => ?_)
              refine Kd.S_append_step k49 (w0 := w) w.heap.size (by rfl) (.tmp 17) (.tmp 20) 38 49 (.agg #[(.bool false), (.int .i64 0), (.slice none 0 0)]) 40 rfl Try.underlying38 info49 rfl (by decide) (by omega) u181000 x181000_1 (⟨false, 0, y181⟩ : S49) [.bool false, .int .i64 0, .slice Ao14 y181.length co14] (fun _ => True) (fun k_ => some k_ = (.slice Ao14 y181.length co14 : Value).ownBlock) rfl rfl ?aP (fun k_ hk_ => ((Kd.R_mono (ok' := fun k_ => ((fun _ => True)) k_ ∧ some k_ ≠ (u181000 : Value).ownBlock) (Kd.R_apart' (HO183.out) (Kd.S_typed HO_181000.out) (by decide)) (fun k_ hk => ⟨trivial, hk.2⟩))).1 k_ hk_.symm) ?aF ?aO ?aB ?aS ?aL ?_
              (case aP => exact k49_mkM _ _ _ (⟨false, 0, y181⟩ : S49) (Kd.R_mono (Kd.R_tight rfl (Kd.R_mono (ok' := fun k_ => ((fun _ => True)) k_ ∧ some k_ ≠ (u181000 : Value).ownBlock) (Kd.R_apart' (HO183.out) (Kd.S_typed HO_181000.out) (by decide)) (fun k_ hk => ⟨trivial, hk.2⟩))) (fun _ h_ => h_)))
              (case aB => exact (by repeat (first | (with_reducible first | exact HB.out | apply below_alloc | apply pw_below_drewN | apply below_drew1 | refine below_set ?_ GE178.out | refine below_set ?_ GE180.out) | exact HB.out)))
              (case aF => exact (fun _ _ => trivial))
              (case aO => exact (by (with_reducible repeat (first | apply Kd.S_alloc | apply Kd.S_drewN | apply Kd.S_drew)); exact Kd.S_mono HO_181000.out (fun k_ hk => ⟨trivial, fun e_ => hk.2 e_⟩)))
              (case aS => exact (below_size (by repeat (first | (with_reducible first | exact HB.out | apply below_alloc | apply pw_below_drewN | apply below_drew1 | refine below_set ?_ GE178.out | refine below_set ?_ GE180.out) | exact HB.out))))
              (case aL => have := LMc10.out; omega)
              intro v185 w15 ho hb hg hat
              rw [← Ny184.out] at ho
              have n0_ := Aside0.mk (blk_grown (g := gb178) (o := .cells #[.slice none 0 0] 40 (0, 0)) (by (with_reducible repeat (first | refine blk_drewN ?_ _ | refine blk_drew ?_ | refine blk_alloc ?_ _)); exact BK178.out) hg (Kd.S_ne HO_181000.out BK178.out (by decide)))
              have n1_ := Aside0.mk (blk_grown (g := gb180) (o := .cells #[u181000] 40 (0, 0)) (by (with_reducible repeat (first | refine blk_drewN ?_ _ | refine blk_drew ?_ | refine blk_alloc ?_ _)); exact BK180.out) hg (Kd.S_ne HO_181000.out BK180.out (by decide)))
              have n2_ := Aside0.mk (hb)
              have n3_ := Aside0.mk (ho)
              clear BK178
              clear BK180
              clear HB
              clear HO_181000
              clear HO183
              have BK178 := n0_
              have BK180 := n1_
              have HB := n2_
              have HO186 := n3_
              clear n0_ n1_ n2_ n3_
              clear ho hb hg hat
              obtain ⟨Ao16, co16, eo16⟩ := Kd.S_slice HO186.out
              (first | subst eo16 | (injection eo16 with f1_ f2_ f3_; have f4_ := f1_.symm; have f5_ := f3_.symm; clear f1_ f2_ f3_; subst f4_; subst f5_))
              refine hK.out _ _ ((blk_cell BK180.out 0).trans rfl) (fun hHeld => ?_)
              clear hK K
              refine norm_ (a' := ?_) ?_ ?_
              rotate_left
              · show Act.put _ (some 21) _ = _
                simp only [Act.put, List.setIfInBounds_toArray, List.set_cons_zero, List.set_cons_succ, i64_w, i32_w]
                rfl
              refine pure_ (i := 6) (N := some 22) (v := ?_) (a' := ?_) #[true, true, true, true, true, true, true, false] rfl rfl (any_of HT_.out (by kernel_rfl)) (fun _ _ _ h => h) (Or.inl ⟨by rfl, ?_⟩) ?_ ?_
              rotate_left
              · intro w'
                go_simp
                with_reducible rfl
              rotate_left
              · simp only [Act.put, List.setIfInBounds_toArray, List.set_cons_zero, List.set_cons_succ, i64_w, i32_w]
                rfl
              refine last_ (i := 7) (N := none) #[true, true, true, true, true, true, true, true] rfl rfl (one_of HT_.out (by kernel_rfl)) (by decide) (fun K hK => ?_)
              have hs17 : w15.cell? ⟨gb180, 0, none⟩ = some (u181000) := (blk_cell BK180.out 0).trans rfl
              have hfs17 := blk_frozen BK180.out 0
              have hns17_0 := NB178_180.out
              have hms17_0 := NB180_178.out
              refine skip_ (w1 := ?_) (by rfl) rfl ?_ ?_
              rotate_left
              · go_simp
                rfl
              refine hK.out _ _ ?_
              clear hK K
              refine done_ (done_of HT_.out (by kernel_rfl)) ?_
              try go_wp2
              go_roundg k1
              case measure => have := HK1.out; omega
              case rel => exact ⟨(wrap64 (x5_1 + 1)), (y184), (.slice Ao16 y184.length co16), (by first | rfl | (simp; done) | (simp [*]; done)), H', ⟨by have := HK1.out; omega⟩, ⟨by (with_reducible repeat (first | apply Kd.S_alloc | apply Kd.S_drewN | apply Kd.S_drew)); exact Kd.S_mono (Kd.S_far (p := ⟨gb180, 0, none⟩) (Kd.S_types HO186.out BK180.out (by decide)) (fun _ hk => hk.2) (.slice Ao16 y184.length co16)) (fun _ hk => trivial)⟩, ⟨by (with_reducible repeat (first | refine blk_drewN ?_ _ | refine blk_drew ?_ | refine blk_alloc ?_ _)); refine blk_far ?_ NB178_180.out _; (with_reducible repeat (first | refine blk_drewN ?_ _ | refine blk_drew ?_ | refine blk_alloc ?_ _)); exact BK178.out⟩, ⟨by (with_reducible repeat (first | refine blk_drewN ?_ _ | refine blk_drew ?_ | refine blk_alloc ?_ _)); refine blk_put (cs := #[u181000]) ?_ 0 _ rfl; (with_reducible repeat (first | refine blk_drewN ?_ _ | refine blk_drew ?_ | refine blk_alloc ?_ _)); exact BK180.out⟩, ⟨by repeat (first | (with_reducible first | exact HB.out | apply below_alloc | apply pw_below_drewN | apply below_drew1 | refine below_set ?_ GE178.out | refine below_set ?_ GE180.out) | exact HB.out)⟩⟩
            · rw [if_neg c10] at H
              exact absurd H (by simp)
          · rw [if_neg c9] at H
            exact absurd H (by simp)
        · rw [if_neg c8] at H
          have c8b0 : decide (x5_1 < a0) = false := decide_eq_false c8
          clear c8
          simp only [Option.some.injEq, Prod.mk.injEq] at H
          obtain ⟨rfl, rfl⟩ := H
          have hnb18 := NB180_178.out
          have hnc18 := NB178_180.out
          have hcz19_0 : wr.cell? ⟨gb180, 0, none⟩ = some (u181000) := (blk_cell BK180.out 0).trans rfl
          have hfz19_0 := blk_frozen BK180.out 0
          obtain ⟨Ao20, co20, eo20⟩ := Kd.S_slice HO_181000.out
          subst eo20
          have hcz21_0 : wr.cell? ⟨gb178, 0, none⟩ = some (.slice none 0 0) := (blk_cell BK178.out 0).trans rfl
          have hfz21_0 := blk_frozen BK178.out 0
          go_wp2
          refine bodyPost_ret (results_ct rfl _ _ gb178 40 #[.slice Ao20 x181000_1.length co20] (0, 0) _ rfl (by (with_reducible repeat (first | refine blk_drewN ?_ _ | refine blk_drew ?_ | refine blk_alloc ?_ _)); refine blk_put (cs := #[.slice none 0 0]) ?_ 0 _ rfl; (with_reducible repeat (first | refine blk_drewN ?_ _ | refine blk_drew ?_ | refine blk_alloc ?_ _)); exact BK178.out) Try.underlying40 rfl (by kernel_rfl)) rfl ?_
          exact ⟨_, by first | rfl | (simp [errW_none, errW_some] <;> rfl) | (simp [*, errW_none, errW_some] <;> rfl), by (with_reducible repeat (first | apply Kd.S_alloc | apply Kd.S_drewN | apply Kd.S_drew)); exact Kd.S_mono (Kd.S_far (p := ⟨gb178, 0, none⟩) (Kd.S_types HO_181000.out BK178.out (by decide)) (fun _ hk => hk.2) (.slice Ao20 x181000_1.length co20)) (fun _ hk => trivial), by repeat (first | (with_reducible first | exact HB.out | apply below_alloc | apply pw_below_drewN | apply below_drew1 | refine below_set ?_ GE178.out | refine below_set ?_ GE180.out) | exact HB.out)⟩
  · replace c3 := Bool.eq_false_iff.mpr c3
    subst c3
    have H1 : (some (([] : List (S49)), false)) = some (r1, r2) := by rw [if_neg (show ¬ (false = true) by decide)] at H; exact H
    clear H
    have H := H1
    clear H1
    simp only [Option.some.injEq, Prod.mk.injEq] at H
    obtain ⟨rfl, rfl⟩ := H
    go_enter Try.func96, Try.ntmps96
    go_wp2_with (first | ((with_reducible refine gate_dst (N := 2) rfl ?_); refine box_event ?hg (N := 2) ?hd (cs := #[.slice none 0 0]) (t := 40) ?hr ?_; (case hd => rfl); (case hg => rfl); (case hr => first | (go_simp; done) | (go_simp; rfl)); intro gb178 hg w22 hbox hb; have n0_ := Aside0.mk (below_step (by repeat (first | (with_reducible first | exact HB.out | apply below_alloc | apply pw_below_drewN | apply below_drew1) | exact HB.out)) hb); have n1_ := Aside0.mk (hbox); have n2_ := Aside0.mk ((by rw [hg]; exact (below_size (by repeat (first | (with_reducible first | exact HB.out | apply below_alloc | apply pw_below_drewN | apply below_drew1) | exact HB.out))) : w.heap.size ≤ gb178)); have n3_ := Aside0.mk ((by rw [hg]; exact (below_size (by repeat (first | (with_reducible first | exact HB.out | apply below_alloc | apply pw_below_drewN | apply below_drew1) | exact HB.out))) : w.heap.size ≤ gb178)); clear HB; have HB := n0_; have BK178 := n1_; have GW178 := n2_; have GE178 := n3_; clear n0_ n1_ n2_ n3_; clear hb hbox hg) | ((with_reducible refine gate_callee (f := 66) rfl ?_); refine goesL_ (some 7) rfl rfl Try.func66 (by kernel_rfl) rfl #[.int .i64 a0, .int .i64 3, .int .i64 10] rfl (by (try simp only [List.map_toArray, List.map_cons, List.map_nil]); first | done | rfl | (simp only [List.length_drop, List.length_take]; rfl)) ?_; (with_reducible refine (spec_l01In.calls a0 3 10 false _ A2.out).mono ?_); rintro e w' ⟨rfl, ⟨nd, rfl⟩⟩; refine ⟨_, rfl, ?_⟩; (try (rw [drewN_self w22]; generalize hq_ : World.drewN w22 _ = w22; have n0_ : Aside0 (w22.heap[gb178]? = some (.cells #[.slice none 0 0] 40 (0, 0))) := ⟨by rw [← hq_]; exact (by (with_reducible repeat (first | refine blk_drewN ?_ _ | refine blk_drew ?_ | refine blk_alloc ?_ _)); exact BK178.out)⟩; have n1_ : Aside0 (Below w.heap.size w w22) := ⟨by rw [← hq_]; exact (by repeat (first | (with_reducible first | exact HB.out | apply below_alloc | apply pw_below_drewN | apply below_drew1 | refine below_set ?_ GE178.out) | exact HB.out))⟩; clear BK178 HB hq_; have BK178 := n0_; have HB := n1_; clear n0_ n1_)); have hcz23_0 : w22.cell? ⟨gb178, 0, none⟩ = some (.slice none 0 0) := (blk_cell BK178.out 0).trans rfl; have hfz23_0 := blk_frozen BK178.out 0))
    refine bodyPost_ret (results_ct rfl _ _ gb178 40 #[.slice none 0 0] (0, 0) _ rfl (by (with_reducible repeat (first | refine blk_drewN ?_ _ | refine blk_drew ?_ | refine blk_alloc ?_ _)); refine blk_put (cs := #[.slice none 0 0]) ?_ 0 _ rfl; (with_reducible repeat (first | refine blk_drewN ?_ _ | refine blk_drew ?_ | refine blk_alloc ?_ _)); exact BK178.out) Try.underlying40 rfl (by kernel_rfl)) rfl ?_
    exact ⟨_, by first | rfl | (simp [errW_none, errW_some] <;> rfl) | (simp [*, errW_none, errW_some] <;> rfl), by first | exact Kd.S_nil _ _ _ _ _ | exact Kd.N_nil _ _ _ _ _ | exact Kd.V_nil _ _ _ _ _ | exact Kd.Q_nil _ _ _ _ _ | exact Kd.R_nil _ _ _ _ _, by repeat (first | (with_reducible first | exact HB.out | apply below_alloc | apply pw_below_drewN | apply below_drew1 | refine below_set ?_ GE178.out) | exact HB.out)⟩

end Go.Proofs.Ytcpgpchdplpfiaa.PF

/- Functions of the translation as plain Lean functions, and for each that its call comes to just what its Lean function answers; its conditions stand in each theorem. Written by a program of this session. -/
namespace Go.Proofs.Ytcpgpchdplpfiaa.PF
open Go.RowKit Go.Proofs.YtcpgpchdplpfiaaW.PrintWords Go.Proofs.YtcpgpchdplpfiaaW.PrintLast Go.Proofs.YtcpgpchdplpfiaaW.PrintMore
attribute [local go_sem] max2_int min2_int max_two min_two max_three min_three max_four min_four   -- for this text's walks alone
set_option linter.unusedVariables false
set_option linter.unusedSimpArgs false

/-! ### spec_MarkBad: function 98 -/
def spec_MarkBad.f (k : Nat) (l0_0 : List (S49)) (a1 : Int) : Option ((List (S49))) := (spec_l05Copy.f k l0_0).bind fun t189 => ((spec_l01In.f a1 0 (wrap64 ((l0_0.length : Int) - 1))).bind fun t193 => (if t193 = true then (if 0 ≤ a1 then (if a1 < (t189.length : Int) then (some (t189.set (a1 : Int).toNat (⟨true, (rd_T49 t189 a1).f1, (rd_T49 t189 a1).f2⟩ : S49))) else (none)) else (none)) else (some t189)))
theorem spec_MarkBad.mono : ∀ a0 a1 k, LeO (spec_MarkBad.f k a0 a1) (spec_MarkBad.f (k + 1) a0 a1) := by
  intro a0 a1 k
  unfold spec_MarkBad.f
  repeat' first
      | (with_reducible exact spec_l05Copy.mono _ _)
      | (with_reducible exact LeO.refl _)
      | (with_reducible exact LeO.none _)
      | (with_reducible refine LeO.ite ?_ ?_)
      | (with_reducible refine LeO.bind ?_ (fun _ => ?_))
      | exact spec_l05Copy.mono _ _
      | exact LeO.none _
      | refine LeO.ite ?_ ?_
      | refine LeO.bind ?_ (fun _ => ?_)
set_option maxHeartbeats 8000000 in
set_option maxRecDepth 100000 in
theorem spec_MarkBad.calls (k : Nat) (A0_0 : Option Addr) (c0_0 : Nat) (l0_0 : List (S49)) (a1 : Int) (r : List (S49)) (w : World) (hr0_0 : Kd.C k49 w A0_0 l0_0.length l0_0) (hc0_0 : l0_0.length ≤ c0_0) (h : spec_MarkBad.f k l0_0 a1 = some r) :
    Calls Try.prog 98 #[.agg #[.slice A0_0 l0_0.length c0_0], .int .i64 a1] w fun e w' => ∃ v0_ : Value, e = .returned (.agg #[v0_]) ∧ Kd.S k49 49 w' w.heap.size (fun _ => True) v0_ r ∧ Below w.heap.size w w' := by
  have hu40 := Try.underlying40
  have HR0_0 := Aside0.mk hr0_0
  have HC0_0 := Aside0.mk hc0_0
  clear hr0_0 hc0_0
  have HB := Aside0.mk (Below.refl w.heap.size w)
  have H : ((spec_l05Copy.f k l0_0).bind fun t189 => ((spec_l01In.f a1 0 (wrap64 ((l0_0.length : Int) - 1))).bind fun t193 => (if t193 = true then (if 0 ≤ a1 then (if a1 < (t189.length : Int) then (some (t189.set (a1 : Int).toNat (⟨true, (rd_T49 t189 a1).f1, (rd_T49 t189 a1).f2⟩ : S49))) else (none)) else (none)) else (some t189)))) = some r := h
  clear h
  replace H := Option.bind_eq_some_iff.mp H
  obtain ⟨t189, A30, H⟩ := H
  replace H : ((spec_l01In.f a1 0 (wrap64 ((l0_0.length : Int) - 1))).bind fun t193 => (if t193 = true then (if 0 ≤ a1 then (if a1 < (t189.length : Int) then (some (t189.set (a1 : Int).toNat (⟨true, (rd_T49 t189 a1).f1, (rd_T49 t189 a1).f2⟩ : S49))) else (none)) else (none)) else (some t189))) = some r := H
  have A3 := Aside0.mk A30
  clear A30
  replace H := Option.bind_eq_some_iff.mp H
  obtain ⟨t193, A40, H⟩ := H
  replace H : (if t193 = true then (if 0 ≤ a1 then (if a1 < (t189.length : Int) then (some (t189.set (a1 : Int).toNat (⟨true, (rd_T49 t189 a1).f1, (rd_T49 t189 a1).f2⟩ : S49))) else (none)) else (none)) else (some t189)) = some r := H
  have A4 := Aside0.mk A40
  clear A40
  by_cases c5 : t193 = true
  · subst c5
    have H1 : (if 0 ≤ a1 then (if a1 < (t189.length : Int) then (some (t189.set (a1 : Int).toNat (⟨true, (rd_T49 t189 a1).f1, (rd_T49 t189 a1).f2⟩ : S49))) else (none)) else (none)) = some r := by rw [if_pos rfl] at H; exact H
    clear H
    have H := H1
    clear H1
    by_cases c6 : 0 ≤ a1
    · rw [if_pos c6] at H
      have c6b0 : decide (0 ≤ a1) = true := decide_eq_true c6
      clear c6
      by_cases c7 : a1 < (t189.length : Int)
      · rw [if_pos c7] at H
        have c7b0 : decide (a1 < (t189.length : Int)) = true := decide_eq_true c7
        clear c7
        obtain ⟨y194, hy194⟩ : ∃ y_ : List (S49), y_ = (t189.set (a1 : Int).toNat (⟨true, (rd_T49 t189 a1).f1, (rd_T49 t189 a1).f2⟩ : S49)) := ⟨_, rfl⟩
        replace H : (some y194) = some r := by first | (rw [hy194]; with_reducible exact H) | (have H2_ := (Option.bind_some _ _).symm.trans H; rw [hy194]; with_reducible exact H2_) | (have H2_ := (Option.bind_some _ _).symm.trans H; with_reducible exact H2_) | with_reducible exact H | (rw [hy194]; exact H) | exact H
        have Ny194 := Aside0.mk hy194
        clear hy194
        obtain rfl := Option.some.inj H
        go_enter Try.func98, Try.ntmps98
        go_wp2_with (first | ((with_reducible refine gate_dst (N := 2) rfl ?_); refine box_event ?hg (N := 2) ?hd (cs := #[.slice A0_0 l0_0.length c0_0]) (t := 40) ?hr ?_; (case hd => rfl); (case hg => rfl); (case hr => first | (go_simp; done) | (go_simp; rfl)); intro gb187 hg w9 hbox hb; have n0_ := Aside0.mk (below_step (by repeat (first | (with_reducible first | exact HB.out | apply below_alloc | apply pw_below_drewN | apply below_drew1) | exact HB.out)) hb); have n1_ := Aside0.mk (hbox); have n2_ := Aside0.mk ((by rw [hg]; exact (below_size (by repeat (first | (with_reducible first | exact HB.out | apply below_alloc | apply pw_below_drewN | apply below_drew1) | exact HB.out))) : w.heap.size ≤ gb187)); have n3_ := Aside0.mk ((by rw [hg]; exact (below_size (by repeat (first | (with_reducible first | exact HB.out | apply below_alloc | apply pw_below_drewN | apply below_drew1) | exact HB.out))) : w.heap.size ≤ gb187)); clear HB; have HB := n0_; have BK187 := n1_; have GW187 := n2_; have GE187 := n3_; clear n0_ n1_ n2_ n3_; clear hb hbox hg) | ((with_reducible refine gate_dst (N := 4) rfl ?_); refine box_event ?hg (N := 4) ?hd (cs := #[.slice none 0 0]) (t := 40) ?hr ?_; (case hd => rfl); (case hg => rfl); (case hr => first | (go_simp; done) | (go_simp; rfl)); intro gb188 hg w10 hbox hb; have n0_ := Aside0.mk (blk_below (g := gb187) (o := .cells #[.slice A0_0 l0_0.length c0_0] 40 (0, 0)) (by (with_reducible repeat (first | refine blk_drewN ?_ _ | refine blk_drew ?_ | refine blk_alloc ?_ _)); exact BK187.out) hb); have n1_ := Aside0.mk (below_step (by repeat (first | (with_reducible first | exact HB.out | apply below_alloc | apply pw_below_drewN | apply below_drew1 | refine below_set ?_ GE187.out) | exact HB.out)) hb); have n2_ := Aside0.mk (hbox); have n3_ := Aside0.mk ((by rw [hg]; exact (below_size (by repeat (first | (with_reducible first | exact HB.out | apply below_alloc | apply pw_below_drewN | apply below_drew1 | refine below_set ?_ GE187.out) | exact HB.out))) : w.heap.size ≤ gb188)); have n4_ := Aside0.mk ((by rw [hg]; exact (below_size (by repeat (first | (with_reducible first | exact HB.out | apply below_alloc | apply pw_below_drewN | apply below_drew1 | refine below_set ?_ GE187.out) | exact HB.out))) : w.heap.size ≤ gb188)); have n5_ := Aside0.mk ((by rw [hg]; exact Nat.ne_of_lt (blk_lt (g := gb187) (o := .cells #[.slice A0_0 l0_0.length c0_0] 40 (0, 0)) (by (with_reducible repeat (first | refine blk_drewN ?_ _ | refine blk_drew ?_ | refine blk_alloc ?_ _)); exact BK187.out)) : gb187 ≠ gb188)); have n6_ := Aside0.mk ((by rw [hg]; exact Nat.ne_of_gt (blk_lt (g := gb187) (o := .cells #[.slice A0_0 l0_0.length c0_0] 40 (0, 0)) (by (with_reducible repeat (first | refine blk_drewN ?_ _ | refine blk_drew ?_ | refine blk_alloc ?_ _)); exact BK187.out)) : gb188 ≠ gb187)); clear BK187; clear HB; have BK187 := n0_; have HB := n1_; have BK188 := n2_; have GW188 := n3_; have GE188 := n4_; have NB187_188 := n5_; have NB188_187 := n6_; clear n0_ n1_ n2_ n3_ n4_ n5_ n6_; clear hb hbox hg; have hnb11 := NB187_188.out; have hnc11 := NB188_187.out; have hcz12_0 : w10.cell? ⟨gb187, 0, none⟩ = some (.slice A0_0 l0_0.length c0_0) := (blk_cell BK187.out 0).trans rfl; have hfz12_0 := blk_frozen BK187.out 0) | ((with_reducible refine gate_callee (f := 70) rfl ?_); refine goesL_ (some 7) rfl rfl Try.func70 (by kernel_rfl) rfl #[.agg #[.slice A0_0 l0_0.length c0_0]] rfl (by (try simp only [List.map_toArray, List.map_cons, List.map_nil]); first | done | rfl | (simp only [List.length_drop, List.length_take]; rfl)) ?_; (with_reducible refine (spec_l05Copy.calls k _ _ l0_0 t189 _ ?side1 ?side2 A3.out).mono ?_); (case side1 => repeat (first | exact (Kd.C_below HR0_0.out HB.out) | (with_reducible refine Kd.C_alloc ?_ _) | (with_reducible refine Kd.C_drewN ?_ _) | (with_reducible refine Kd.C_drew ?_))); (case side2 => exact HC0_0.out); rintro e w13 ⟨v190, rfl, ho0, hb⟩; refine ⟨_, rfl, ?_⟩; have n0_ := Aside0.mk (Kd.S_lower ho0 (below_size (by repeat (first | (with_reducible first | exact HB.out | apply below_alloc | apply pw_below_drewN | apply below_drew1 | refine below_set ?_ GE187.out | refine below_set ?_ GE188.out) | exact HB.out)))); have n1_ := Aside0.mk (blk_below (g := gb187) (o := .cells #[.slice A0_0 l0_0.length c0_0] 40 (0, 0)) (by (with_reducible repeat (first | refine blk_drewN ?_ _ | refine blk_drew ?_ | refine blk_alloc ?_ _)); exact BK187.out) hb); have n2_ := Aside0.mk (blk_below (g := gb188) (o := .cells #[.slice none 0 0] 40 (0, 0)) (by (with_reducible repeat (first | refine blk_drewN ?_ _ | refine blk_drew ?_ | refine blk_alloc ?_ _)); exact BK188.out) hb); have n3_ := Aside0.mk (below_step (by repeat (first | (with_reducible first | exact HB.out | apply below_alloc | apply pw_below_drewN | apply below_drew1 | refine below_set ?_ GE187.out | refine below_set ?_ GE188.out) | exact HB.out)) hb); clear BK187; clear BK188; clear HB; have HO191 := n0_; have BK187 := n1_; have BK188 := n2_; have HB := n3_; clear n0_ n1_ n2_ n3_; (try clear hb); (try clear hb2); (try clear hk); (try clear hi); (try clear ho0)) | ((with_reducible refine gate_dst (N := 5) rfl ?_); refine box_event ?hg (N := 5) ?hd (cs := #[.slice none 0 0]) (t := 40) ?hr ?_; (case hd => rfl); (case hg => rfl); (case hr => first | (go_simp; done) | (go_simp; rfl)); intro gb192 hg w14 hbox hb; have n0_ := Aside0.mk (Kd.S_below (by (with_reducible repeat (first | apply Kd.S_alloc | apply Kd.S_drewN | apply Kd.S_drew)); exact HO191.out) hb); have n1_ := Aside0.mk (blk_below (g := gb187) (o := .cells #[.slice A0_0 l0_0.length c0_0] 40 (0, 0)) (by (with_reducible repeat (first | refine blk_drewN ?_ _ | refine blk_drew ?_ | refine blk_alloc ?_ _)); exact BK187.out) hb); have n2_ := Aside0.mk (blk_below (g := gb188) (o := .cells #[.slice none 0 0] 40 (0, 0)) (by (with_reducible repeat (first | refine blk_drewN ?_ _ | refine blk_drew ?_ | refine blk_alloc ?_ _)); exact BK188.out) hb); have n3_ := Aside0.mk (below_step (by repeat (first | (with_reducible first | exact HB.out | apply below_alloc | apply pw_below_drewN | apply below_drew1 | refine below_set ?_ GE187.out | refine below_set ?_ GE188.out) | exact HB.out)) hb); have n4_ := Aside0.mk (hbox); have n5_ := Aside0.mk ((by rw [hg]; exact (below_size (by repeat (first | (with_reducible first | exact HB.out | apply below_alloc | apply pw_below_drewN | apply below_drew1 | refine below_set ?_ GE187.out | refine below_set ?_ GE188.out) | exact HB.out))) : w.heap.size ≤ gb192)); have n6_ := Aside0.mk ((by rw [hg]; exact (below_size (by repeat (first | (with_reducible first | exact HB.out | apply below_alloc | apply pw_below_drewN | apply below_drew1 | refine below_set ?_ GE187.out | refine below_set ?_ GE188.out) | exact HB.out))) : w.heap.size ≤ gb192)); have n7_ := Aside0.mk ((by rw [hg]; exact Nat.ne_of_lt (blk_lt (g := gb187) (o := .cells #[.slice A0_0 l0_0.length c0_0] 40 (0, 0)) (by (with_reducible repeat (first | refine blk_drewN ?_ _ | refine blk_drew ?_ | refine blk_alloc ?_ _)); exact BK187.out)) : gb187 ≠ gb192)); have n8_ := Aside0.mk ((by rw [hg]; exact Nat.ne_of_gt (blk_lt (g := gb187) (o := .cells #[.slice A0_0 l0_0.length c0_0] 40 (0, 0)) (by (with_reducible repeat (first | refine blk_drewN ?_ _ | refine blk_drew ?_ | refine blk_alloc ?_ _)); exact BK187.out)) : gb192 ≠ gb187)); have n9_ := Aside0.mk ((by rw [hg]; exact Nat.ne_of_lt (blk_lt (g := gb188) (o := .cells #[.slice none 0 0] 40 (0, 0)) (by (with_reducible repeat (first | refine blk_drewN ?_ _ | refine blk_drew ?_ | refine blk_alloc ?_ _)); exact BK188.out)) : gb188 ≠ gb192)); have n10_ := Aside0.mk ((by rw [hg]; exact Nat.ne_of_gt (blk_lt (g := gb188) (o := .cells #[.slice none 0 0] 40 (0, 0)) (by (with_reducible repeat (first | refine blk_drewN ?_ _ | refine blk_drew ?_ | refine blk_alloc ?_ _)); exact BK188.out)) : gb192 ≠ gb188)); clear HO191; clear BK187; clear BK188; clear HB; have HO191 := n0_; have BK187 := n1_; have BK188 := n2_; have HB := n3_; have BK192 := n4_; have GW192 := n5_; have GE192 := n6_; have NB187_192 := n7_; have NB192_187 := n8_; have NB188_192 := n9_; have NB192_188 := n10_; clear n0_ n1_ n2_ n3_ n4_ n5_ n6_ n7_ n8_ n9_ n10_; clear hb hbox hg; obtain ⟨Ao15, co15, eo15⟩ := Kd.S_slice HO191.out; subst eo15; have hnb16 := NB192_187.out; have hnc16 := NB187_192.out; have hnb17 := NB192_188.out; have hnc17 := NB188_192.out; have hcz18_0 : w14.cell? ⟨gb192, 0, none⟩ = some (.slice none 0 0) := (blk_cell BK192.out 0).trans rfl; have hfz18_0 := blk_frozen BK192.out 0) | ((with_reducible refine gate_store (t := 40) (p := 5) rfl ?_); refine store_event (t := 40) (p := 5) (v := ?vo_w19) (w1 := (w14.setCell ⟨gb192, 0, none⟩ (.slice Ao15 t189.length co15))) ?hg ?ho ?hn ?hr ?_; (case ho => rfl); (case hg => rfl); (case hn => rfl); (case hr => first | (go_simp; done) | (go_simp; rfl)); intro w19 hw; have n0_ : Aside0 (Kd.S k49 49 w19 w.heap.size (fun _ => True) (.slice Ao15 t189.length co15) t189) := ⟨(by rw [hw]; exact (by (with_reducible repeat (first | apply Kd.S_alloc | apply Kd.S_drewN | apply Kd.S_drew)); exact Kd.S_mono (Kd.S_far (p := ⟨gb192, 0, none⟩) (Kd.S_types HO191.out BK192.out (by decide)) (fun _ hk => hk.2) (.slice Ao15 t189.length co15)) (fun _ hk => trivial)))⟩; have n1_ : Aside0 (w19.heap[gb187]? = some (.cells #[.slice A0_0 l0_0.length c0_0] 40 (0, 0))) := ⟨(by rw [hw]; exact (by (with_reducible repeat (first | refine blk_drewN ?_ _ | refine blk_drew ?_ | refine blk_alloc ?_ _)); refine blk_far ?_ NB187_192.out _; (with_reducible repeat (first | refine blk_drewN ?_ _ | refine blk_drew ?_ | refine blk_alloc ?_ _)); exact BK187.out))⟩; have n2_ : Aside0 (w19.heap[gb188]? = some (.cells #[.slice none 0 0] 40 (0, 0))) := ⟨(by rw [hw]; exact (by (with_reducible repeat (first | refine blk_drewN ?_ _ | refine blk_drew ?_ | refine blk_alloc ?_ _)); refine blk_far ?_ NB188_192.out _; (with_reducible repeat (first | refine blk_drewN ?_ _ | refine blk_drew ?_ | refine blk_alloc ?_ _)); exact BK188.out))⟩; have n3_ : Aside0 (w19.heap[gb192]? = some (.cells #[.slice Ao15 t189.length co15] 40 (0, 0))) := ⟨(by rw [hw]; exact (by (with_reducible repeat (first | refine blk_drewN ?_ _ | refine blk_drew ?_ | refine blk_alloc ?_ _)); refine blk_put (cs := #[.slice none 0 0]) ?_ 0 _ rfl; (with_reducible repeat (first | refine blk_drewN ?_ _ | refine blk_drew ?_ | refine blk_alloc ?_ _)); exact BK192.out))⟩; have n4_ : Aside0 (Below w.heap.size w w19) := ⟨(by rw [hw]; exact (by repeat (first | (with_reducible first | exact HB.out | apply below_alloc | apply pw_below_drewN | apply below_drew1 | refine below_set ?_ GE187.out | refine below_set ?_ GE188.out | refine below_set ?_ GE192.out) | exact HB.out)))⟩; clear hw; clear HO191; clear BK187; clear BK188; clear BK192; clear HB; have HO191 := n0_; have BK187 := n1_; have BK188 := n2_; have BK192 := n3_; have HB := n4_; clear n0_ n1_ n2_ n3_ n4_; have hcz20_0 : w19.cell? ⟨gb187, 0, none⟩ = some (.slice A0_0 l0_0.length c0_0) := (blk_cell BK187.out 0).trans rfl; have hfz20_0 := blk_frozen BK187.out 0) | ((with_reducible refine gate_callee (f := 66) rfl ?_); refine goesL_ (some 13) rfl rfl Try.func66 (by kernel_rfl) rfl #[.int .i64 a1, .int .i64 0, .int .i64 (wrap64 ((l0_0.length : Int) - 1))] rfl (by (try simp only [List.map_toArray, List.map_cons, List.map_nil]); first | done | rfl | (simp only [List.length_drop, List.length_take]; rfl)) ?_; (with_reducible refine (spec_l01In.calls a1 0 (wrap64 ((l0_0.length : Int) - 1)) true _ A4.out).mono ?_); rintro e w' ⟨rfl, ⟨nd, rfl⟩⟩; refine ⟨_, rfl, ?_⟩; (try (rw [drewN_self w19]; generalize hq_ : World.drewN w19 _ = w19; have n0_ : Aside0 (Kd.S k49 49 w19 w.heap.size (fun _ => True) (.slice Ao15 t189.length co15) t189) := ⟨by rw [← hq_]; exact (by (with_reducible repeat (first | apply Kd.S_alloc | apply Kd.S_drewN | apply Kd.S_drew)); exact HO191.out)⟩; have n1_ : Aside0 (w19.heap[gb187]? = some (.cells #[.slice A0_0 l0_0.length c0_0] 40 (0, 0))) := ⟨by rw [← hq_]; exact (by (with_reducible repeat (first | refine blk_drewN ?_ _ | refine blk_drew ?_ | refine blk_alloc ?_ _)); exact BK187.out)⟩; have n2_ : Aside0 (w19.heap[gb188]? = some (.cells #[.slice none 0 0] 40 (0, 0))) := ⟨by rw [← hq_]; exact (by (with_reducible repeat (first | refine blk_drewN ?_ _ | refine blk_drew ?_ | refine blk_alloc ?_ _)); exact BK188.out)⟩; have n3_ : Aside0 (w19.heap[gb192]? = some (.cells #[.slice Ao15 t189.length co15] 40 (0, 0))) := ⟨by rw [← hq_]; exact (by (with_reducible repeat (first | refine blk_drewN ?_ _ | refine blk_drew ?_ | refine blk_alloc ?_ _)); exact BK192.out)⟩; have n4_ : Aside0 (Below w.heap.size w w19) := ⟨by rw [← hq_]; exact (by repeat (first | (with_reducible first | exact HB.out | apply below_alloc | apply pw_below_drewN | apply below_drew1 | refine below_set ?_ GE187.out | refine below_set ?_ GE188.out | refine below_set ?_ GE192.out) | exact HB.out))⟩; clear HO191 BK187 BK188 BK192 HB hq_; have HO191 := n0_; have BK187 := n1_; have BK188 := n2_; have BK192 := n3_; have HB := n4_; clear n0_ n1_ n2_ n3_ n4_)); have hcz21_0 : w19.cell? ⟨gb192, 0, none⟩ = some (.slice Ao15 t189.length co15) := (blk_cell BK192.out 0).trans rfl; have hfz21_0 := blk_frozen BK192.out 0; have p8 : 0 ≤ (a1 : Int) := of_decide_eq_true (by first | (with_reducible assumption) | assumption); have q8 : (a1 : Int) < ((t189.length : Int) : Int) := of_decide_eq_true (by first | (with_reducible assumption) | assumption); obtain ⟨go8, co8, eo8, gb8, gl8, cl8, HG8⟩ := Kd.S_form HO191.out (by omega); (first | cases eo8 | (injection eo8 with ea_ en_ ec_; (first | subst ea_ | (injection ea_ with ea_; subst ea_)); subst ec_; clear en_)); have GB8 := Aside0.mk gb8; have GG8 := Aside0.mk HG8; clear gb8 gl8 HG8; obtain ⟨_, ce8, hcl8, hM8, hcc8, hfr8, _, _⟩ := Kd.S_elem HO191.out z49 (a1 : Int) p8 q8; obtain ⟨ve8_2, rfl, ge8_2⟩ := k49_openM hM8; have hx8_0 : w19.cell? ⟨go8, (a1 : Int).toNat * 3, none⟩ = some (.bool ((rd_T49 t189 a1).f0)) := hcc8 0 _ rfl; have hx8_1 : w19.cell? ⟨go8, (a1 : Int).toNat * 3 + 1, none⟩ = some (.int .i64 ((rd_T49 t189 a1).f1)) := hcc8 1 _ rfl; have hx8_2 : w19.cell? ⟨go8, (a1 : Int).toNat * 3 + 2, none⟩ = some (ve8_2) := hcc8 2 _ rfl; have hf8_0 : w19.frozen? ⟨go8, (a1 : Int).toNat * 3, none⟩ = false := hfr8 0; have hf8_1 : w19.frozen? ⟨go8, (a1 : Int).toNat * 3 + 1, none⟩ = false := hfr8 1; have hf8_2 : w19.frozen? ⟨go8, (a1 : Int).toNat * 3 + 2, none⟩ = false := hfr8 2; clear hcl8 hcc8 hfr8 hM8; replace p8 := eq_true p8; replace q8 := eq_true q8; have HX22 := Aside0.mk (show Kd.S k49 49 w19 w.heap.size (fun k_ => ((fun _ => True)) k_ ∧ ¬ ((fun _ => False)) k_) (.slice (some ⟨go8, 0, none⟩) t189.length co15) t189 from (by (with_reducible repeat (first | apply Kd.S_alloc | apply Kd.S_drewN | apply Kd.S_drew)); exact Kd.S_mono HO191.out (fun k_ hk => ⟨trivial, fun e_ => e_⟩))); obtain ⟨oki22, ce22, hcl22, hM22, hcc22, hfr22, hoki22, hH22⟩ := Kd.S_elem HX22.out z49 (a1 : Int) (of_decide_eq_true (by first | (with_reducible assumption) | assumption)) (by have h_ : (a1 : Int) < ((t189.length : Int) : Int) := of_decide_eq_true (by first | (with_reducible assumption) | assumption); first | exact h_ | (have e_ := (Kd.S_reads' HO191.out).1; omega) | simpa using h_); obtain ⟨ve22_2, rfl, ge22_2⟩ := k49_openM hM22; have HP22 := Kd.S_seg hH22 (of_decide_eq_true (by first | (with_reducible assumption) | assumption)) (by have h_ : (a1 : Int) < ((t189.length : Int) : Int) := of_decide_eq_true (by first | (with_reducible assumption) | assumption); first | exact h_ | (have e_ := (Kd.S_reads' HO191.out).1; omega) | simpa using h_) (seg := [.bool true]) (j := 0) (show 1 ≤ 3 from by decide) (x' := (⟨true, (rd_T49 t189 a1).f1, (rd_T49 t189 a1).f2⟩ : S49)) (k49_mkM _ _ _ (⟨true, (rd_T49 t189 a1).f1, (rd_T49 t189 a1).f2⟩ : S49) (Kd.R_mono ge22_2 (fun _ h_ => Or.inl h_))) (fun _ hk => hk) (fun k_ hk_ => hk_.elim); have hx22_0 := hcc22 0 _ rfl; (try simp only [show (k49).sz = 3 from rfl, Nat.mul_one, Nat.add_zero] at hx22_0); have hf22_0 := hfr22 0; (try simp only [show (k49).sz = 3 from rfl, Nat.mul_one, Nat.add_zero] at hf22_0); clear hcl22 hcc22 hfr22 hM22 hoki22 hH22) | ((with_reducible refine gate_store (t := 4) (p := 18) rfl ?_); refine store_event (t := 4) (p := 18) (v := ?vo_w23) (w1 := (w19.setCell ⟨go8, (a1 : Int).toNat * 3, none⟩ (.bool true))) ?hg ?ho ?hn ?hr ?_; (case ho => rfl); (case hg => rfl); (case hn => rfl); (case hr => first | (go_simp; done) | (go_simp; rfl)); intro w23 hw; have hg : w19.grownBy w23 (some go8) := (by rw [hw]; exact HP22.2); have hp_ : Kd.S k49 49 w23 w.heap.size (fun _ => True) (.slice (some ⟨go8, 0, none⟩) t189.length co15) y194 := (by rw [hw, Ny194.out]; exact HP22.1); clear HP22; have n0_ := Aside0.mk (blk_grown (g := gb187) (o := .cells #[.slice A0_0 l0_0.length c0_0] 40 (0, 0)) (by (with_reducible repeat (first | refine blk_drewN ?_ _ | refine blk_drew ?_ | refine blk_alloc ?_ _)); exact BK187.out) hg (Kd.S_ne HO191.out BK187.out (by decide))); have n1_ := Aside0.mk (blk_grown (g := gb188) (o := .cells #[.slice none 0 0] 40 (0, 0)) (by (with_reducible repeat (first | refine blk_drewN ?_ _ | refine blk_drew ?_ | refine blk_alloc ?_ _)); exact BK188.out) hg (Kd.S_ne HO191.out BK188.out (by decide))); have n2_ := Aside0.mk (hp_); have n3_ := Aside0.mk (blk_grown (g := gb192) (o := .cells #[.slice (some ⟨go8, 0, none⟩) t189.length co15] 40 (0, 0)) (by (with_reducible repeat (first | refine blk_drewN ?_ _ | refine blk_drew ?_ | refine blk_alloc ?_ _)); exact BK192.out) hg (Kd.S_ne HO191.out BK192.out (by decide))); have n4_ := Aside0.mk ((by rw [hw]; exact below_set (HB.out) GB8.out : Below w.heap.size w w23)); clear BK187; clear BK188; clear HO191; clear BK192; clear HB; have BK187 := n0_; have BK188 := n1_; have HO191 := n2_; have BK192 := n3_; have HB := n4_; clear n0_ n1_ n2_ n3_ n4_; clear hg hw hp_; have hcz24_0 : w23.cell? ⟨gb192, 0, none⟩ = some (.slice (some ⟨go8, 0, none⟩) t189.length co15) := (blk_cell BK192.out 0).trans rfl; have hfz24_0 := blk_frozen BK192.out 0; have hcz25_0 : w23.cell? ⟨gb188, 0, none⟩ = some (.slice none 0 0) := (blk_cell BK188.out 0).trans rfl; have hfz25_0 := blk_frozen BK188.out 0))
        refine bodyPost_ret (results_cell_row rfl _ _ gb188 40 #[.slice (some ⟨go8, 0, none⟩) t189.length co15] (0, 0) _ rfl (by (with_reducible repeat (first | refine blk_drewN ?_ _ | refine blk_drew ?_ | refine blk_alloc ?_ _)); refine blk_put (cs := #[.slice none 0 0]) ?_ 0 _ rfl; (with_reducible repeat (first | refine blk_drewN ?_ _ | refine blk_drew ?_ | refine blk_alloc ?_ _)); exact BK188.out) Try.underlying40 rfl (by kernel_rfl)) rfl ?_
        exact ⟨_, by first | rfl | (simp [errW_none, errW_some] <;> rfl) | (simp [*, errW_none, errW_some] <;> rfl), by (with_reducible repeat (first | apply Kd.S_alloc | apply Kd.S_drewN | apply Kd.S_drew)); exact Kd.S_mono (Kd.S_far (p := ⟨gb188, 0, none⟩) (Kd.S_types HO191.out BK188.out (by decide)) (fun _ hk => hk.2) (.slice (some ⟨go8, 0, none⟩) t189.length co15)) (fun _ hk => trivial), by repeat (first | (with_reducible first | exact HB.out | apply below_alloc | apply pw_below_drewN | apply below_drew1 | refine below_set ?_ GE187.out | refine below_set ?_ GE188.out | refine below_set ?_ GE192.out) | exact HB.out)⟩
      · rw [if_neg c7] at H
        exact absurd H (by simp)
    · rw [if_neg c6] at H
      exact absurd H (by simp)
  · replace c5 := Bool.eq_false_iff.mpr c5
    subst c5
    have H1 : (some t189) = some r := by rw [if_neg (show ¬ (false = true) by decide)] at H; exact H
    clear H
    have H := H1
    clear H1
    obtain rfl := Option.some.inj H
    go_enter Try.func98, Try.ntmps98
    go_wp2_with (first | ((with_reducible refine gate_dst (N := 2) rfl ?_); refine box_event ?hg (N := 2) ?hd (cs := #[.slice A0_0 l0_0.length c0_0]) (t := 40) ?hr ?_; (case hd => rfl); (case hg => rfl); (case hr => first | (go_simp; done) | (go_simp; rfl)); intro gb187 hg w26 hbox hb; have n0_ := Aside0.mk (below_step (by repeat (first | (with_reducible first | exact HB.out | apply below_alloc | apply pw_below_drewN | apply below_drew1) | exact HB.out)) hb); have n1_ := Aside0.mk (hbox); have n2_ := Aside0.mk ((by rw [hg]; exact (below_size (by repeat (first | (with_reducible first | exact HB.out | apply below_alloc | apply pw_below_drewN | apply below_drew1) | exact HB.out))) : w.heap.size ≤ gb187)); have n3_ := Aside0.mk ((by rw [hg]; exact (below_size (by repeat (first | (with_reducible first | exact HB.out | apply below_alloc | apply pw_below_drewN | apply below_drew1) | exact HB.out))) : w.heap.size ≤ gb187)); clear HB; have HB := n0_; have BK187 := n1_; have GW187 := n2_; have GE187 := n3_; clear n0_ n1_ n2_ n3_; clear hb hbox hg) | ((with_reducible refine gate_dst (N := 4) rfl ?_); refine box_event ?hg (N := 4) ?hd (cs := #[.slice none 0 0]) (t := 40) ?hr ?_; (case hd => rfl); (case hg => rfl); (case hr => first | (go_simp; done) | (go_simp; rfl)); intro gb188 hg w27 hbox hb; have n0_ := Aside0.mk (blk_below (g := gb187) (o := .cells #[.slice A0_0 l0_0.length c0_0] 40 (0, 0)) (by (with_reducible repeat (first | refine blk_drewN ?_ _ | refine blk_drew ?_ | refine blk_alloc ?_ _)); exact BK187.out) hb); have n1_ := Aside0.mk (below_step (by repeat (first | (with_reducible first | exact HB.out | apply below_alloc | apply pw_below_drewN | apply below_drew1 | refine below_set ?_ GE187.out) | exact HB.out)) hb); have n2_ := Aside0.mk (hbox); have n3_ := Aside0.mk ((by rw [hg]; exact (below_size (by repeat (first | (with_reducible first | exact HB.out | apply below_alloc | apply pw_below_drewN | apply below_drew1 | refine below_set ?_ GE187.out) | exact HB.out))) : w.heap.size ≤ gb188)); have n4_ := Aside0.mk ((by rw [hg]; exact (below_size (by repeat (first | (with_reducible first | exact HB.out | apply below_alloc | apply pw_below_drewN | apply below_drew1 | refine below_set ?_ GE187.out) | exact HB.out))) : w.heap.size ≤ gb188)); have n5_ := Aside0.mk ((by rw [hg]; exact Nat.ne_of_lt (blk_lt (g := gb187) (o := .cells #[.slice A0_0 l0_0.length c0_0] 40 (0, 0)) (by (with_reducible repeat (first | refine blk_drewN ?_ _ | refine blk_drew ?_ | refine blk_alloc ?_ _)); exact BK187.out)) : gb187 ≠ gb188)); have n6_ := Aside0.mk ((by rw [hg]; exact Nat.ne_of_gt (blk_lt (g := gb187) (o := .cells #[.slice A0_0 l0_0.length c0_0] 40 (0, 0)) (by (with_reducible repeat (first | refine blk_drewN ?_ _ | refine blk_drew ?_ | refine blk_alloc ?_ _)); exact BK187.out)) : gb188 ≠ gb187)); clear BK187; clear HB; have BK187 := n0_; have HB := n1_; have BK188 := n2_; have GW188 := n3_; have GE188 := n4_; have NB187_188 := n5_; have NB188_187 := n6_; clear n0_ n1_ n2_ n3_ n4_ n5_ n6_; clear hb hbox hg; have hnb28 := NB187_188.out; have hnc28 := NB188_187.out; have hcz29_0 : w27.cell? ⟨gb187, 0, none⟩ = some (.slice A0_0 l0_0.length c0_0) := (blk_cell BK187.out 0).trans rfl; have hfz29_0 := blk_frozen BK187.out 0) | ((with_reducible refine gate_callee (f := 70) rfl ?_); refine goesL_ (some 7) rfl rfl Try.func70 (by kernel_rfl) rfl #[.agg #[.slice A0_0 l0_0.length c0_0]] rfl (by (try simp only [List.map_toArray, List.map_cons, List.map_nil]); first | done | rfl | (simp only [List.length_drop, List.length_take]; rfl)) ?_; (with_reducible refine (spec_l05Copy.calls k _ _ l0_0 t189 _ ?side1 ?side2 A3.out).mono ?_); (case side1 => repeat (first | exact (Kd.C_below HR0_0.out HB.out) | (with_reducible refine Kd.C_alloc ?_ _) | (with_reducible refine Kd.C_drewN ?_ _) | (with_reducible refine Kd.C_drew ?_))); (case side2 => exact HC0_0.out); rintro e w30 ⟨v190, rfl, ho0, hb⟩; refine ⟨_, rfl, ?_⟩; have n0_ := Aside0.mk (Kd.S_lower ho0 (below_size (by repeat (first | (with_reducible first | exact HB.out | apply below_alloc | apply pw_below_drewN | apply below_drew1 | refine below_set ?_ GE187.out | refine below_set ?_ GE188.out) | exact HB.out)))); have n1_ := Aside0.mk (blk_below (g := gb187) (o := .cells #[.slice A0_0 l0_0.length c0_0] 40 (0, 0)) (by (with_reducible repeat (first | refine blk_drewN ?_ _ | refine blk_drew ?_ | refine blk_alloc ?_ _)); exact BK187.out) hb); have n2_ := Aside0.mk (blk_below (g := gb188) (o := .cells #[.slice none 0 0] 40 (0, 0)) (by (with_reducible repeat (first | refine blk_drewN ?_ _ | refine blk_drew ?_ | refine blk_alloc ?_ _)); exact BK188.out) hb); have n3_ := Aside0.mk (below_step (by repeat (first | (with_reducible first | exact HB.out | apply below_alloc | apply pw_below_drewN | apply below_drew1 | refine below_set ?_ GE187.out | refine below_set ?_ GE188.out) | exact HB.out)) hb); clear BK187; clear BK188; clear HB; have HO191 := n0_; have BK187 := n1_; have BK188 := n2_; have HB := n3_; clear n0_ n1_ n2_ n3_; (try clear hb); (try clear hb2); (try clear hk); (try clear hi); (try clear ho0)) | ((with_reducible refine gate_dst (N := 5) rfl ?_); refine box_event ?hg (N := 5) ?hd (cs := #[.slice none 0 0]) (t := 40) ?hr ?_; (case hd => rfl); (case hg => rfl); (case hr => first | (go_simp; done) | (go_simp; rfl)); intro gb192 hg w31 hbox hb; have n0_ := Aside0.mk (Kd.S_below (by (with_reducible repeat (first | apply Kd.S_alloc | apply Kd.S_drewN | apply Kd.S_drew)); exact HO191.out) hb); have n1_ := Aside0.mk (blk_below (g := gb187) (o := .cells #[.slice A0_0 l0_0.length c0_0] 40 (0, 0)) (by (with_reducible repeat (first | refine blk_drewN ?_ _ | refine blk_drew ?_ | refine blk_alloc ?_ _)); exact BK187.out) hb); have n2_ := Aside0.mk (blk_below (g := gb188) (o := .cells #[.slice none 0 0] 40 (0, 0)) (by (with_reducible repeat (first | refine blk_drewN ?_ _ | refine blk_drew ?_ | refine blk_alloc ?_ _)); exact BK188.out) hb); have n3_ := Aside0.mk (below_step (by repeat (first | (with_reducible first | exact HB.out | apply below_alloc | apply pw_below_drewN | apply below_drew1 | refine below_set ?_ GE187.out | refine below_set ?_ GE188.out) | exact HB.out)) hb); have n4_ := Aside0.mk (hbox); have n5_ := Aside0.mk ((by rw [hg]; exact (below_size (by repeat (first | (with_reducible first | exact HB.out | apply below_alloc | apply pw_below_drewN | apply below_drew1 | refine below_set ?_ GE187.out | refine below_set ?_ GE188.out) | exact HB.out))) : w.heap.size ≤ gb192)); have n6_ := Aside0.mk ((by rw [hg]; exact (below_size (by repeat (first | (with_reducible first | exact HB.out | apply below_alloc | apply pw_below_drewN | apply below_drew1 | refine below_set ?_ GE187.out | refine below_set ?_ GE188.out) | exact HB.out))) : w.heap.size ≤ gb192)); have n7_ := Aside0.mk ((by rw [hg]; exact Nat.ne_of_lt (blk_lt (g := gb187) (o := .cells #[.slice A0_0 l0_0.length c0_0] 40 (0, 0)) (by (with_reducible repeat (first | refine blk_drewN ?_ _ | refine blk_drew ?_ | refine blk_alloc ?_ _)); exact BK187.out)) : gb187 ≠ gb192)); have n8_ := Aside0.mk ((by rw [hg]; exact Nat.ne_of_gt (blk_lt (g := gb187) (o := .cells #[.slice A0_0 l0_0.length c0_0] 40 (0, 0)) (by (with_reducible repeat (first | refine blk_drewN ?_ _ | refine blk_drew ?_ | refine blk_alloc ?_ _)); exact BK187.out)) : gb192 ≠ gb187)); have n9_ := Aside0.mk ((by rw [hg]; exact Nat.ne_of_lt (blk_lt (g := gb188) (o := .cells #[.slice none 0 0] 40 (0, 0)) (by (with_reducible repeat (first | refine blk_drewN ?_ _ | refine blk_drew ?_ | refine blk_alloc ?_ _)); exact BK188.out)) : gb188 ≠ gb192)); have n10_ := Aside0.mk ((by rw [hg]; exact Nat.ne_of_gt (blk_lt (g := gb188) (o := .cells #[.slice none 0 0] 40 (0, 0)) (by (with_reducible repeat (first | refine blk_drewN ?_ _ | refine blk_drew ?_ | refine blk_alloc ?_ _)); exact BK188.out)) : gb192 ≠ gb188)); clear HO191; clear BK187; clear BK188; clear HB; have HO191 := n0_; have BK187 := n1_; have BK188 := n2_; have HB := n3_; have BK192 := n4_; have GW192 := n5_; have GE192 := n6_; have NB187_192 := n7_; have NB192_187 := n8_; have NB188_192 := n9_; have NB192_188 := n10_; clear n0_ n1_ n2_ n3_ n4_ n5_ n6_ n7_ n8_ n9_ n10_; clear hb hbox hg; obtain ⟨Ao32, co32, eo32⟩ := Kd.S_slice HO191.out; subst eo32; have hnb33 := NB192_187.out; have hnc33 := NB187_192.out; have hnb34 := NB192_188.out; have hnc34 := NB188_192.out; have hcz35_0 : w31.cell? ⟨gb192, 0, none⟩ = some (.slice none 0 0) := (blk_cell BK192.out 0).trans rfl; have hfz35_0 := blk_frozen BK192.out 0; have hcz36_0 : w31.cell? ⟨gb187, 0, none⟩ = some (.slice A0_0 l0_0.length c0_0) := (blk_cell BK187.out 0).trans rfl; have hfz36_0 := blk_frozen BK187.out 0) | ((with_reducible refine gate_callee (f := 66) rfl ?_); refine goesL_ (some 13) rfl rfl Try.func66 (by kernel_rfl) rfl #[.int .i64 a1, .int .i64 0, .int .i64 (wrap64 ((l0_0.length : Int) - 1))] rfl (by (try simp only [List.map_toArray, List.map_cons, List.map_nil]); first | done | rfl | (simp only [List.length_drop, List.length_take]; rfl)) ?_; (with_reducible refine (spec_l01In.calls a1 0 (wrap64 ((l0_0.length : Int) - 1)) false _ A4.out).mono ?_); rintro e w' ⟨rfl, ⟨nd, rfl⟩⟩; refine ⟨_, rfl, ?_⟩; have hcz37_0 : w31.cell? ⟨gb188, 0, none⟩ = some (.slice none 0 0) := (blk_cell BK188.out 0).trans rfl; have hfz37_0 := blk_frozen BK188.out 0))
    refine bodyPost_ret (results_cell_row rfl _ _ gb188 40 #[.slice Ao32 t189.length co32] (0, 0) _ rfl (by (with_reducible repeat (first | refine blk_drewN ?_ _ | refine blk_drew ?_ | refine blk_alloc ?_ _)); refine blk_put (cs := #[.slice none 0 0]) ?_ 0 _ rfl; (with_reducible repeat (first | refine blk_drewN ?_ _ | refine blk_drew ?_ | refine blk_alloc ?_ _)); refine blk_far ?_ NB188_192.out _; (with_reducible repeat (first | refine blk_drewN ?_ _ | refine blk_drew ?_ | refine blk_alloc ?_ _)); exact BK188.out) Try.underlying40 rfl (by kernel_rfl)) rfl ?_
    exact ⟨_, by first | rfl | (simp [errW_none, errW_some] <;> rfl) | (simp [*, errW_none, errW_some] <;> rfl), by (with_reducible repeat (first | apply Kd.S_alloc | apply Kd.S_drewN | apply Kd.S_drew)); exact Kd.S_mono (Kd.S_far (p := ⟨gb188, 0, none⟩) (Kd.S_far (p := ⟨gb192, 0, none⟩) (Kd.S_types (Kd.S_types HO191.out BK192.out (by decide)) BK188.out (by decide)) (fun _ hk => hk.1.2) (.slice Ao32 t189.length co32)) (fun _ hk => hk.2) (.slice Ao32 t189.length co32)) (fun _ hk => trivial), by repeat (first | (with_reducible first | exact HB.out | apply below_alloc | apply pw_below_drewN | apply below_drew1 | refine below_set ?_ GE187.out | refine below_set ?_ GE188.out | refine below_set ?_ GE192.out) | exact HB.out)⟩

end Go.Proofs.Ytcpgpchdplpfiaa.PF

/- Rows whose elements' inner rows lie apart: a field of an element stored, and an element's own row written by a call. -/
namespace Go.Proofs.YtcpgpchdplpfiaaW.PrintWords
set_option linter.unusedVariables false
set_option linter.unusedSimpArgs false
open Go.RowKit
namespace Kd
section
variable {α : Type} {d : Kd α} {e g n cap : Nat} {w W w' : World} {base : Nat} {ok oki : Nat → Prop} {v : Value} {xs : List α} {i : Int} {c : List Value}
/-- One field of element i is stored. -/
theorem S_field (h : S d e W base ok (.slice (some ⟨g, 0, none⟩) n cap) xs) (z : α) (i : Int) (h0 : 0 ≤ i) (h1 : i < n) (j : Nat) (u : Value) (hj : j + [u].length ≤ d.sz) {x' : α}
    (hM : ∀ (okp : Nat → Prop) (c : List Value), d.M W base okp (xs.getD i.toNat z) c → d.M W base okp x' (c.take j ++ [u] ++ c.drop (j + [u].length))) :
    S d e (W.setCell ⟨g, i.toNat * d.sz + j, none⟩ u) base ok (.slice (some ⟨g, 0, none⟩) n cap) (xs.set i.toNat x') ∧ W.grownBy (W.setCell ⟨g, i.toNat * d.sz + j, none⟩ u) (some g) := by
  have hS : S d e W base (fun k => ok k ∧ ¬ (fun _ => False) k) (.slice (some ⟨g, 0, none⟩) n cap) xs := S_mono h (fun k hk => ⟨hk, fun h => h⟩)
  obtain ⟨oki, c, _, hMc, _, _, _, hH⟩ := S_elem hS z i h0 h1
  have r := S_seg (seg := [u]) (j := j) hH h0 h1 hj (hM oki c hMc) (fun _ hk => .inl hk) (fun _ hk => hk.elim)
  exact r
/-- What element i leads to was written by a call that keeps all else. -/
theorem S_called (hH : H d e W base ok v xs i oki c) (hk : Kept W w' oki) {x' : α} (hM : d.M w' base (fun k => oki k ∨ W.heap.size ≤ k) x' c) (hok : ∀ k, W.heap.size ≤ k → ok k) : S d e w' base ok v (xs.set i.toNat x') :=
  H_back (H_kept (H_widen hH) hk (fun _ _ hn hS => hn (.inl hS))) hM (fun k hk => hk.imp id (fun h => ⟨hok k h, h⟩))
/-- Cells of element i are stored; what they lead to is new to the row. -/
theorem S_put (h : S d e W base ok (.slice (some ⟨g, 0, none⟩) n cap) xs) (z : α) (i : Int) (h0 : 0 ≤ i) (h1 : i < n) (j : Nat) (seg : List Value) (hj : j + seg.length ≤ d.sz) {okv : Nat → Prop} (hap : ∀ k, ok k → okv k → False) (hg : ∀ k, okv k → k ≠ g) {x' : α}
    (hM : ∀ (okp : Nat → Prop) (c : List Value), d.M W base okp (xs.getD i.toNat z) c → d.M W base (fun k => okp k ∨ okv k) x' (c.take j ++ seg ++ c.drop (j + seg.length))) :
    S d e (W.setCells g (i.toNat * d.sz + j) seg) base (fun k => ok k ∨ okv k) (.slice (some ⟨g, 0, none⟩) n cap) (xs.set i.toNat x') ∧ W.grownBy (W.setCells g (i.toNat * d.sz + j) seg) (some g) := by
  have hS : S d e W base (fun k => (ok k ∨ okv k) ∧ ¬ okv k) (.slice (some ⟨g, 0, none⟩) n cap) xs := S_mono h (fun k hk => ⟨.inl hk, fun h2 => hap k hk h2⟩)
  obtain ⟨oki, c, _, hMc, _, _, _, hH⟩ := S_elem hS z i h0 h1
  exact S_seg (okg := okv) hH h0 h1 hj (hM oki c hMc) (fun _ hk => hk) (fun k hk => ⟨.inr hk, hg k hk⟩)
/-- Two rows that came at once, of types apart: their blocks are apart. -/
theorem two_apart {β : Type} {d' : Kd β} {e' : Nat} {base' : Nat} {ok' : Nat → Prop} {v' : Value} {ys : List β} (h : d.R e w base ok v xs) (h' : S d' e' w base' ok' v' ys) (ht : ∀ q, q ∈ e :: d.E → ∀ q', q' ∈ e' :: d'.E → q ≠ q') :
    ∃ TA TB : Nat → Prop, (∀ k, TA k → TB k → False) ∧ d.R e w base (fun k => (base ≤ k ∧ k < w.heap.size) ∧ TA k) v xs ∧ S d' e' w base' (fun k => (base' ≤ k ∧ k < w.heap.size) ∧ TB k) v' ys := by
  refine ⟨fun k => ∃ q, q ∈ e :: d.E ∧ ∃ cells, w.heap[k]? = some (.cells cells q (0, 0)), fun k => ∃ q, q ∈ e' :: d'.E ∧ ∃ cells, w.heap[k]? = some (.cells cells q (0, 0)), ?_, R_mono (R_bound h) (fun k hk => ⟨⟨hk.2.1, hk.2.2.1⟩, hk.2.2.2⟩), S_mono (S_bound h') (fun k hk => ⟨⟨hk.2.1, hk.2.2.1⟩, hk.2.2.2⟩)⟩
  rintro k ⟨q, hq, c, hc⟩ ⟨q', hq', c', hc'⟩
  rw [hc] at hc'
  injection hc' with hc'
  injection hc' with h1 h2 h3
  exact ht q hq q' hq' h2
/-- Two rows that came at once, the second one's block none of the first one's. -/
theorem two_told {β : Type} {d' : Kd β} {e' : Nat} {base' : Nat} {ok' : Nat → Prop} {v' : Value} {ys : List β} (h : S d e w base (fun k => some k ≠ v'.ownBlock) v xs) (h' : d'.R e' w base' ok' v' ys) (hE : d'.E = []) :
    ∃ TA TB : Nat → Prop, (∀ k, TA k → TB k → False) ∧ S d e w base (fun k => (base ≤ k ∧ k < w.heap.size) ∧ TA k) v xs ∧ d'.R e' w base' (fun k => (base' ≤ k ∧ k < w.heap.size) ∧ TB k) v' ys :=
  ⟨fun k => some k ≠ v'.ownBlock, fun k => some k = v'.ownBlock, fun k h1 h2 => h1 h2, S_mono (S_bound h) (fun k hk => ⟨⟨hk.2.1, hk.2.2.1⟩, hk.1⟩), R_mono (R_bound (R_tight hE h')) (fun k hk => ⟨⟨hk.2.1, hk.2.2.1⟩, hk.1⟩)⟩
end
section
variable {P : Program} {ops : Array Oper} {rest : List Oper} {o : Oper} {a : Act} {Q : Exit → Act → World → Prop} {α : Type}
/-- A literal of two elements that lead to rows apart. -/
theorem S_lit2 (d : Kd α) {w0 W : World} (base e : Nat) (hgd : o.guard = none) {N : Tmp} (hd : o.dst = some N) {x y : α} {cx cy : List Value} {okx oky : Nat → Prop}
    (hrun : (execOp a.eval o).run P W = .ok (.value (.slice (some ⟨W.heap.size, 0, none⟩) 2 2)) (W.alloc (.cells (cx ++ cy).toArray e)))
    (hx : d.M W base okx x cx) (hy : d.M W base oky y cy) (hap : ∀ k, okx k → oky k → False) (HB : Below base w0 W) (hbase : base ≤ W.heap.size)
    (h : ∀ v1 w1, S d e w1 base (fun k => (okx k ∨ oky k) ∨ W.heap.size ≤ k) v1 [x, y] → Below base w0 w1 → Below W.heap.size W w1 → wpList P ops Q rest (a.put o.dst v1) w1) : wpList P ops Q (o :: rest) a W := by
  have lx : cx.length = d.sz := d.K_len (d.K_of_M hx)
  have ly : cy.length = d.sz := d.K_len (d.K_of_M hy)
  refine S_lits d base e hgd hd (xs := [x, y]) (inner := cx ++ cy) (ok := fun k => (okx k ∨ oky k) ∨ W.heap.size ≤ k) (fun j k => (j = 0 ∧ okx k) ∨ (j = 1 ∧ oky k)) hrun (by rw [List.length_append, lx, ly]; simp; omega) ?_ ?_ ?_ (.inr (Nat.le_refl _)) HB hbase (by simp) (fun v1 w1 hS hb hg _ => h v1 w1 hS hb ⟨hg.os, hg.tape, hg.output, hg.size, fun i hi => hg.block i hi (by simp)⟩)
  · intro j z hz
    rcases j with _ | _ | j
    · obtain rfl : x = z := Option.some.inj hz
      rw [Nat.zero_mul, List.drop_zero, ← lx, List.take_left]
      exact d.M_mono (fun k hk => .inl ⟨rfl, hk⟩) hx
    · obtain rfl : y = z := Option.some.inj hz
      rw [Nat.zero_add, Nat.one_mul, ← lx, List.drop_left, lx, ← ly, List.take_length]
      exact d.M_mono (fun k hk => .inr ⟨rfl, hk⟩) hy
    · simp at hz
  · rintro i j k (⟨rfl, h1⟩ | ⟨rfl, h1⟩) (⟨rfl, h2⟩ | ⟨rfl, h2⟩)
    · rfl
    · exact (hap k h1 h2).elim
    · exact (hap k h2 h1).elim
    · rfl
  · rintro j k (⟨_, h1⟩ | ⟨_, h1⟩)
    · exact .inl (.inl h1)
    · exact .inl (.inr h1)
open Classical in
/-- append(v, x...), behind 'at_builtin': x's elements lead to rows that lie apart, none of them v's. -/
theorem S_append_rows (d : Kd α) {w0 W : World} (base : Nat) (hgd : o.guard = none) (s x : Operand) (t e : TypeId) (z : Value) (bytes : Nat)
    (ho : o.op = .call { callee := .builtin .append, args := #[s, x], argTypes := #[t, t] })
    (ht : P.underlying t = some (.slice e)) (hinfo : (P.info? e).map (fun i => (i.zero, i.size, i.bytes)) = some (some z, d.sz, bytes)) (hz : z.cells.size = d.sz) (hs0 : 0 < d.sz) (hb0 : 0 < bytes)
    (v : Value) (xs ys : List α) (A : Option Addr) (m c : Nat) (ok okv oku : Nat → Prop) (hs : a.eval s = v) (hx : a.eval x = .slice A m c)
    (HO : S d e W base okv v xs) (H2 : S d e W base oku (.slice A m c) ys) (hap : ∀ k, okv k → oku k → False) (h1 : ∀ k, okv k → ok k) (h2 : ∀ k, oku k → ok k) (hfresh : ∀ k, W.heap.size ≤ k → ok k)
    (HB : Below base w0 W) (hbase : base ≤ W.heap.size) (hl : (xs.length + m) * bytes ≤ 140737488355328)
    (h : ∀ v1 w1, S d e w1 base ok v1 (xs ++ ys) → Below base w0 w1 → W.grownBy w1 v.ownBlock → (v1.ownBlock = v.ownBlock ∨ ∃ b, v1.ownBlock = some b ∧ W.heap.size ≤ b) → wpList P ops Q rest (a.put o.dst v1) w1) :
    wpList P ops Q (o :: rest) a W := by
  obtain ⟨f1, R1⟩ := HO
  obtain ⟨f2, R2⟩ := H2
  have R1' : (tag (fun k => if oku k then f2 k + xs.length else f1 k) d).R e W base okv v xs.zipIdx := R_tag R1 (fun k hk _ => if_neg (fun h => hap k hk h))
  have hm := (R_reads' R2).1
  rw [List.length_zipIdx] at hm
  obtain ⟨_, inner, ho2, hr2⟩ := R2
  obtain ⟨A', c', he, hR2⟩ := own_reads_row ho2 hr2 rfl
  injection he with ea en ec
  subst ea
  have HR : ReadsRow (fun p cs => (tag (fun k => if oku k then f2 k + xs.length else f1 k) d).M W base oku p cs) (tag (fun k => if oku k then f2 k + xs.length else f1 k) d).sz W A m (ys.zipIdx xs.length) := by
    refine ⟨by rw [List.length_zipIdx]; exact hm.symm, by have := hR2.2.1; omega, fun hn => ?_⟩
    obtain ⟨ad, e2, hc⟩ := hR2.2.2 (by omega)
    refine ⟨ad, e2, fun j p hj => ?_⟩
    rw [List.getElem?_zipIdx] at hj
    obtain ⟨y, hy, rfl⟩ := Option.map_eq_some_iff.1 hj
    obtain ⟨cs, hl2, hM, hcell⟩ := hc j (y, j) (zip_at hy)
    refine ⟨cs, hl2, ?_, hcell⟩
    refine d.M_mono (fun k hk => ⟨hk.1.1, ?_⟩) hM
    show (if oku k then f2 k + xs.length else f1 k) = xs.length + j
    have h3 : f2 k = j := hk.2
    rw [if_pos hk.1.1, h3, Nat.add_comm]
  refine R_append_rows (tag (fun k => if oku k then f2 k + xs.length else f1 k) d) base hgd s x t e z bytes ho ht hinfo hz hs0 hb0 v xs.zipIdx (ys.zipIdx xs.length) A m c ok oku hs hx (R_mono R1' h1) HR (fun _ _ h => h) (fun k hk => ⟨h2 k hk, fun he => hap k (R1.1 k he.symm) hk⟩) hfresh HB hbase (by rw [List.length_zipIdx]; exact hl) ?_
  intro v1 w1 hr
  rw [show xs.zipIdx ++ ys.zipIdx xs.length = (xs ++ ys).zipIdx from by rw [List.zipIdx_append]; simp] at hr
  exact h v1 w1 ⟨_, hr⟩
end
end Kd
end Go.Proofs.YtcpgpchdplpfiaaW.PrintWords

/- Functions of the translation as plain Lean functions, and for each that its call comes to just what its Lean function answers; its conditions stand in each theorem. Written by a program of this session. -/
namespace Go.Proofs.Ytcpgpchdplpfiaa.PF
open Go.RowKit Go.Proofs.YtcpgpchdplpfiaaW.PrintWords Go.Proofs.YtcpgpchdplpfiaaW.PrintLast Go.Proofs.YtcpgpchdplpfiaaW.PrintMore
attribute [local go_sem] max2_int min2_int max_two min_two max_three min_three max_four min_four   -- for this text's walks alone
set_option linter.unusedVariables false
set_option linter.unusedSimpArgs false

/-! ### spec_Wipe: function 97 -/
def spec_Wipe.f (k : Nat) (l0_0 : List (S49)) (a1 : Int) : Option ((List (S49)) × Bool) := (spec_l05Copy.f k l0_0).bind fun t189 => ((spec_FlashOk.f k l0_0).bind fun t193 => (if t193 = true then ((spec_l01In.f a1 0 (wrap64 ((l0_0.length : Int) - 1))).bind fun t194 => (if t194 = true then (if 0 ≤ a1 then (if a1 < (l0_0.length : Int) then (if (rd_T49 l0_0 a1).f0 = true then (some (t189, false)) else (if ((rd_T49 l0_0 a1).f1) = 1000000000 then (some (t189, false)) else (if 4 ≤ 11728124029610 then (if a1 < (t189.length : Int) then (some ((t189.set (a1 : Int).toNat (⟨false, wrap64 (((rd_T49 l0_0 a1).f1) + 1), (List.replicate 4 z103)⟩ : S49)), true)) else (none)) else (none)))) else (none)) else (none)) else (some (t189, false)))) else (some (t189, false))))
theorem spec_Wipe.mono : ∀ a0 a1 k, LeO (spec_Wipe.f k a0 a1) (spec_Wipe.f (k + 1) a0 a1) := by
  intro a0 a1 k
  unfold spec_Wipe.f
  repeat' first
      | (with_reducible exact spec_FlashOk.mono _ _)
      | (with_reducible exact spec_l05Copy.mono _ _)
      | (with_reducible exact LeO.refl _)
      | (with_reducible exact LeO.none _)
      | (with_reducible refine LeO.ite ?_ ?_)
      | (with_reducible refine LeO.bind ?_ (fun _ => ?_))
      | exact spec_FlashOk.mono _ _
      | exact spec_l05Copy.mono _ _
      | exact LeO.none _
      | refine LeO.ite ?_ ?_
      | refine LeO.bind ?_ (fun _ => ?_)
def spec_Wipe.T4 : Bool × List (List Nat × List Nat) := (true, [([], []), ([0], [0]), ([], []), ([], []), ([3], [3]), ([], []), ([4, 5], [4, 5]), ([6], [6]), ([7], [7]), ([8], [8]), ([], []), ([9, 10], [9, 10]), ([1, 2, 0, 1, 2, 3, 4, 5, 6, 7, 8, 9, 10, 11], [1, 2]), ([12, 11, 0, 1, 2, 3, 4, 5, 6, 7, 8, 9, 10, 11], [11, 12])])
def spec_Wipe.B4 : List Nat := [0, 1, 0, 0, 8, 0, 56, 120, 248, 504, 0, 2040, 4095, 8191]
theorem spec_Wipe.tab4 : rtab .any (opsOf Try.f97 4) = spec_Wipe.T4 := by kernel_rfl
theorem spec_Wipe.bits4 : waitsOk spec_Wipe.T4.2 spec_Wipe.B4 = true := by kernel_rfl
set_option maxHeartbeats 8000000 in
set_option maxRecDepth 100000 in
theorem spec_Wipe.calls (k : Nat) (A0_0 : Option Addr) (c0_0 : Nat) (l0_0 : List (S49)) (a1 : Int) (r1 : List (S49)) (r2 : Bool) (w : World) (hr0_0 : Kd.C k49 w A0_0 l0_0.length l0_0) (hc0_0 : l0_0.length ≤ c0_0) (h : spec_Wipe.f k l0_0 a1 = some (r1, r2)) :
    Calls Try.prog 97 #[.agg #[.slice A0_0 l0_0.length c0_0], .int .i64 a1] w fun e w' => ∃ v0_ : Value, e = .returned (.tuple #[.agg #[v0_], .bool r2]) ∧ Kd.S k49 49 w' w.heap.size (fun _ => True) v0_ r1 ∧ Below w.heap.size w w' := by
  have hu40 := Try.underlying40
  have hu49 := Try.underlying49
  have HR0_0 := Aside0.mk hr0_0
  have HC0_0 := Aside0.mk hc0_0
  clear hr0_0 hc0_0
  have HB := Aside0.mk (Below.refl w.heap.size w)
  have H : ((spec_l05Copy.f k l0_0).bind fun t189 => ((spec_FlashOk.f k l0_0).bind fun t193 => (if t193 = true then ((spec_l01In.f a1 0 (wrap64 ((l0_0.length : Int) - 1))).bind fun t194 => (if t194 = true then (if 0 ≤ a1 then (if a1 < (l0_0.length : Int) then (if (rd_T49 l0_0 a1).f0 = true then (some (t189, false)) else (if ((rd_T49 l0_0 a1).f1) = 1000000000 then (some (t189, false)) else (if 4 ≤ 11728124029610 then (if a1 < (t189.length : Int) then (some ((t189.set (a1 : Int).toNat (⟨false, wrap64 (((rd_T49 l0_0 a1).f1) + 1), (List.replicate 4 z103)⟩ : S49)), true)) else (none)) else (none)))) else (none)) else (none)) else (some (t189, false)))) else (some (t189, false))))) = some (r1, r2) := h
  clear h
  replace H := Option.bind_eq_some_iff.mp H
  obtain ⟨t189, A30, H⟩ := H
  replace H : ((spec_FlashOk.f k l0_0).bind fun t193 => (if t193 = true then ((spec_l01In.f a1 0 (wrap64 ((l0_0.length : Int) - 1))).bind fun t194 => (if t194 = true then (if 0 ≤ a1 then (if a1 < (l0_0.length : Int) then (if (rd_T49 l0_0 a1).f0 = true then (some (t189, false)) else (if ((rd_T49 l0_0 a1).f1) = 1000000000 then (some (t189, false)) else (if 4 ≤ 11728124029610 then (if a1 < (t189.length : Int) then (some ((t189.set (a1 : Int).toNat (⟨false, wrap64 (((rd_T49 l0_0 a1).f1) + 1), (List.replicate 4 z103)⟩ : S49)), true)) else (none)) else (none)))) else (none)) else (none)) else (some (t189, false)))) else (some (t189, false)))) = some (r1, r2) := H
  have A3 := Aside0.mk A30
  clear A30
  replace H := Option.bind_eq_some_iff.mp H
  obtain ⟨t193, A40, H⟩ := H
  replace H : (if t193 = true then ((spec_l01In.f a1 0 (wrap64 ((l0_0.length : Int) - 1))).bind fun t194 => (if t194 = true then (if 0 ≤ a1 then (if a1 < (l0_0.length : Int) then (if (rd_T49 l0_0 a1).f0 = true then (some (t189, false)) else (if ((rd_T49 l0_0 a1).f1) = 1000000000 then (some (t189, false)) else (if 4 ≤ 11728124029610 then (if a1 < (t189.length : Int) then (some ((t189.set (a1 : Int).toNat (⟨false, wrap64 (((rd_T49 l0_0 a1).f1) + 1), (List.replicate 4 z103)⟩ : S49)), true)) else (none)) else (none)))) else (none)) else (none)) else (some (t189, false)))) else (some (t189, false))) = some (r1, r2) := H
  have A4 := Aside0.mk A40
  clear A40
  by_cases c5 : t193 = true
  · subst c5
    have H1 : ((spec_l01In.f a1 0 (wrap64 ((l0_0.length : Int) - 1))).bind fun t194 => (if t194 = true then (if 0 ≤ a1 then (if a1 < (l0_0.length : Int) then (if (rd_T49 l0_0 a1).f0 = true then (some (t189, false)) else (if ((rd_T49 l0_0 a1).f1) = 1000000000 then (some (t189, false)) else (if 4 ≤ 11728124029610 then (if a1 < (t189.length : Int) then (some ((t189.set (a1 : Int).toNat (⟨false, wrap64 (((rd_T49 l0_0 a1).f1) + 1), (List.replicate 4 z103)⟩ : S49)), true)) else (none)) else (none)))) else (none)) else (none)) else (some (t189, false)))) = some (r1, r2) := by rw [if_pos rfl] at H; exact H
    clear H
    have H := H1
    clear H1
    replace H := Option.bind_eq_some_iff.mp H
    obtain ⟨t194, A60, H⟩ := H
    replace H : (if t194 = true then (if 0 ≤ a1 then (if a1 < (l0_0.length : Int) then (if (rd_T49 l0_0 a1).f0 = true then (some (t189, false)) else (if ((rd_T49 l0_0 a1).f1) = 1000000000 then (some (t189, false)) else (if 4 ≤ 11728124029610 then (if a1 < (t189.length : Int) then (some ((t189.set (a1 : Int).toNat (⟨false, wrap64 (((rd_T49 l0_0 a1).f1) + 1), (List.replicate 4 z103)⟩ : S49)), true)) else (none)) else (none)))) else (none)) else (none)) else (some (t189, false))) = some (r1, r2) := H
    have A6 := Aside0.mk A60
    clear A60
    by_cases c7 : t194 = true
    · subst c7
      have H1 : (if 0 ≤ a1 then (if a1 < (l0_0.length : Int) then (if (rd_T49 l0_0 a1).f0 = true then (some (t189, false)) else (if ((rd_T49 l0_0 a1).f1) = 1000000000 then (some (t189, false)) else (if 4 ≤ 11728124029610 then (if a1 < (t189.length : Int) then (some ((t189.set (a1 : Int).toNat (⟨false, wrap64 (((rd_T49 l0_0 a1).f1) + 1), (List.replicate 4 z103)⟩ : S49)), true)) else (none)) else (none)))) else (none)) else (none)) = some (r1, r2) := by rw [if_pos rfl] at H; exact H
      clear H
      have H := H1
      clear H1
      by_cases c8 : 0 ≤ a1
      · rw [if_pos c8] at H
        have c8b0 : decide (0 ≤ a1) = true := decide_eq_true c8
        clear c8
        by_cases c9 : a1 < (l0_0.length : Int)
        · rw [if_pos c9] at H
          have c9b0 : decide (a1 < (l0_0.length : Int)) = true := decide_eq_true c9
          clear c9
          obtain ⟨bq10, hbq10⟩ : ∃ b_ : Bool, b_ = ((rd_T49 l0_0 a1).f0) := ⟨_, rfl⟩
          replace H : (if bq10 = true then (some (t189, false)) else (if ((rd_T49 l0_0 a1).f1) = 1000000000 then (some (t189, false)) else (if 4 ≤ 11728124029610 then (if a1 < (t189.length : Int) then (some ((t189.set (a1 : Int).toNat (⟨false, wrap64 (((rd_T49 l0_0 a1).f1) + 1), (List.replicate 4 z103)⟩ : S49)), true)) else (none)) else (none)))) = some (r1, r2) := by rw [← hbq10] at H; exact H
          have Nbq10 := Aside0.mk hbq10
          clear hbq10
          (try rw [← Nbq10.out] at A3)
          (try rw [← Nbq10.out] at A4)
          (try rw [← Nbq10.out] at A6)
          by_cases c11 : bq10 = true
          · subst c11
            have H1 : (some (t189, false)) = some (r1, r2) := by rw [if_pos rfl] at H; exact H
            clear H
            have H := H1
            clear H1
            simp only [Option.some.injEq, Prod.mk.injEq] at H
            obtain ⟨rfl, rfl⟩ := H
            have Fa1 := A3
            have Fa2 := A4
            have Fa3 := A6
            clear A3 A4 A6
            have HL := Aside0.mk (Nat.le_refl w.heap.size)
            go_enter Try.func97, Try.ntmps97
            go_wp2_with (first | ((with_reducible refine gate_dst (N := 2) rfl ?_); refine box_event ?hg (N := 2) ?hd (cs := #[.slice A0_0 l0_0.length c0_0]) (t := 40) ?hr ?_; (case hd => rfl); (case hg => rfl); (case hr => first | (go_simp; done) | (go_simp; rfl)); intro gb1 hg w1 hbox hb; have GBK1 := Aside0.mk (show gb1 = w.heap.size ∧ gb1 < w1.heap.size from ⟨hg, blk_lt hbox⟩); have GW1 := Aside0.mk (show w.heap.size ≤ gb1 by have q_ := below_size HB.out; rw [hg]; exact q_); have BK1 := Aside0.mk hbox; replace HB := Aside0.mk (below_step HB.out hb); replace HL := Aside0.mk (And.intro HL.out (below_size hb)); clear hb hbox hg; have hcz2 : w1.cell? ⟨gb1, 0, none⟩ = some (.slice A0_0 l0_0.length c0_0) := (blk_cell BK1.out 0).trans rfl; have hfz3 := blk_frozen BK1.out 0) | ((with_reducible refine gate_dst (N := 4) rfl ?_); refine box_event ?hg (N := 4) ?hd (cs := #[.slice none 0 0]) (t := 40) ?hr ?_; (case hd => rfl); (case hg => rfl); (case hr => first | (go_simp; done) | (go_simp; rfl)); intro gb2 hg w4 hbox hb; replace BK1 := Aside0.mk (blk_below BK1.out hb); have GBK2 := Aside0.mk (show gb2 = w1.heap.size ∧ gb2 < w4.heap.size from ⟨hg, blk_lt hbox⟩); have GW2 := Aside0.mk (show w.heap.size ≤ gb2 by have q_ := below_size HB.out; rw [hg]; exact q_); have BK2 := Aside0.mk hbox; replace HB := Aside0.mk (below_step HB.out hb); replace HL := Aside0.mk (And.intro HL.out (below_size hb)); clear hb hbox hg; clear hcz2 hfz3; have hcz5 : w4.cell? ⟨gb1, 0, none⟩ = some (.slice A0_0 l0_0.length c0_0) := (blk_cell BK1.out 0).trans rfl; have hfz6 := blk_frozen BK1.out 0; have hcz7 : w4.cell? ⟨gb2, 0, none⟩ = some (.slice none 0 0) := (blk_cell BK2.out 0).trans rfl; have hfz8 := blk_frozen BK2.out 0) | ((with_reducible refine gate_callee (f := 70) rfl ?_); refine goesL_ (some 8) rfl rfl Try.func70 (by kernel_rfl) rfl #[.agg #[.slice A0_0 l0_0.length c0_0]] rfl (by (try simp only [List.map_toArray, List.map_cons, List.map_nil]); first | done | rfl | (simp only [List.length_drop, List.length_take]; rfl)) ?_; (with_reducible refine (spec_l05Copy.calls k _ _ l0_0 t189 _ ?side1 ?side2 Fa1.out).mono ?_); (case side1 => exact Kd.C_below HR0_0.out HB.out); (case side2 => exact HC0_0.out); rintro e w9 ⟨v9, rfl, ho0, hb⟩; refine ⟨_, rfl, ?_⟩; have HZ9 := Aside0.mk (Kd.S_lower (Kd.S_mono (ok' := fun k_ => (w4.heap.size ≤ k_ ∧ k_ < w9.heap.size)) (Kd.S_bound ho0) (fun k_ hk_ => ⟨hk_.2.1, hk_.2.2.1⟩)) (below_size HB.out)); clear ho0; replace BK1 := Aside0.mk (blk_below BK1.out hb); replace BK2 := Aside0.mk (blk_below BK2.out hb); replace HB := Aside0.mk (below_step HB.out hb); replace HL := Aside0.mk (And.intro HL.out (below_size hb)); clear hb; obtain ⟨A9, c9, e9⟩ := Kd.S_slice HZ9.out; subst e9; clear hcz5 hfz6 hcz7 hfz8; have hcz10 : w9.cell? ⟨gb1, 0, none⟩ = some (.slice A0_0 l0_0.length c0_0) := (blk_cell BK1.out 0).trans rfl; have hfz11 := blk_frozen BK1.out 0; have hcz12 : w9.cell? ⟨gb2, 0, none⟩ = some (.slice none 0 0) := (blk_cell BK2.out 0).trans rfl; have hfz13 := blk_frozen BK2.out 0) | ((with_reducible refine gate_dst (N := 6) rfl ?_); refine box_event ?hg (N := 6) ?hd (cs := #[.slice none 0 0]) (t := 40) ?hr ?_; (case hd => rfl); (case hg => rfl); (case hr => first | (go_simp; done) | (go_simp; rfl)); intro gb3 hg w14 hbox hb; replace HZ9 := Aside0.mk (Kd.S_below HZ9.out hb); replace BK1 := Aside0.mk (blk_below BK1.out hb); replace BK2 := Aside0.mk (blk_below BK2.out hb); have GBK3 := Aside0.mk (show gb3 = w9.heap.size ∧ gb3 < w14.heap.size from ⟨hg, blk_lt hbox⟩); have GW3 := Aside0.mk (show w.heap.size ≤ gb3 by have q_ := below_size HB.out; rw [hg]; exact q_); have BK3 := Aside0.mk hbox; replace HB := Aside0.mk (below_step HB.out hb); replace HL := Aside0.mk (And.intro HL.out (below_size hb)); clear hb hbox hg; clear hcz10 hfz11 hcz12 hfz13; have hcz15 : w14.cell? ⟨gb1, 0, none⟩ = some (.slice A0_0 l0_0.length c0_0) := (blk_cell BK1.out 0).trans rfl; have hfz16 := blk_frozen BK1.out 0; have hcz17 : w14.cell? ⟨gb2, 0, none⟩ = some (.slice none 0 0) := (blk_cell BK2.out 0).trans rfl; have hfz18 := blk_frozen BK2.out 0; have hcz19 : w14.cell? ⟨gb3, 0, none⟩ = some (.slice none 0 0) := (blk_cell BK3.out 0).trans rfl; have hfz20 := blk_frozen BK3.out 0) | ((with_reducible refine gate_store (t := 40) (p := 6) rfl ?_); refine store_event (t := 40) (p := 6) (v := ?vo22_) (w1 := (w14.setCell ⟨gb3, 0, none⟩ (.slice A9 t189.length c9))) ?hg ?ho ?hn ?hr ?_; (case ho => rfl); (case hg => rfl); (case hn => rfl); (case hr => first | (go_simp; done) | (go_simp; rfl)); intro w21 hw; have hk : Kept w14 w21 (fun k_ => k_ = gb3) := (by rw [hw]; exact (Kept.setCell (Kept.refl w14 (fun k_ => k_ = gb3)) (p := ⟨gb3, 0, none⟩) (.inl rfl) (.slice A9 t189.length c9))); have g0_ := GBK3.out; replace HZ9 := Aside0.mk (Kd.S_kept HZ9.out hk (fun k_ (hk_ : (w4.heap.size ≤ k_ ∧ k_ < w9.heap.size)) (hs_ : k_ = gb3) => by have q_ := HL.out; omega)); replace BK1 := Aside0.mk (blk_kept BK1.out hk (fun hs_ => by have q_ := HL.out; have g_ := GBK1.out; have hs2_ : gb1 = gb3 := hs_; omega)); replace BK2 := Aside0.mk (blk_kept BK2.out hk (fun hs_ => by have q_ := HL.out; have g_ := GBK2.out; have hs2_ : gb2 = gb3 := hs_; omega)); clear g0_; replace BK3 := Aside0.mk (show w21.heap[gb3]? = some (.cells #[.slice A9 t189.length c9] 40 (0, 0)) from (by rw [hw]; exact (blk_put (cs := #[.slice none 0 0]) (cs' := #[.slice A9 t189.length c9]) BK3.out 0 _ rfl))); replace HB := Aside0.mk (show Below w.heap.size w w21 from (by rw [hw]; exact (below_set HB.out GW3.out))); replace HL := Aside0.mk (And.intro HL.out hk.1); clear hk hw; clear hcz15 hfz16 hcz17 hfz18 hcz19 hfz20; have hcz23 : w21.cell? ⟨gb1, 0, none⟩ = some (.slice A0_0 l0_0.length c0_0) := (blk_cell BK1.out 0).trans rfl; have hfz24 := blk_frozen BK1.out 0; have hcz25 : w21.cell? ⟨gb2, 0, none⟩ = some (.slice none 0 0) := (blk_cell BK2.out 0).trans rfl; have hfz26 := blk_frozen BK2.out 0; have hcz27 : w21.cell? ⟨gb3, 0, none⟩ = some (.slice A9 t189.length c9) := (blk_cell BK3.out 0).trans rfl; have hfz28 := blk_frozen BK3.out 0) | ((with_reducible refine gate_callee (f := 71) rfl ?_); refine goesL_ (some 10) rfl rfl Try.func71 (by kernel_rfl) rfl #[.agg #[.slice A0_0 l0_0.length c0_0]] rfl (by (try simp only [List.map_toArray, List.map_cons, List.map_nil]); first | done | rfl | (simp only [List.length_drop, List.length_take]; rfl)) ?_; (with_reducible refine (spec_FlashOk.calls k _ _ l0_0 true _ ?side1 ?side2 Fa2.out).mono ?_); (case side1 => exact Kd.C_below HR0_0.out HB.out); (case side2 => exact HC0_0.out); rintro e w29 ⟨rfl, hb⟩; refine ⟨_, rfl, ?_⟩; replace HZ9 := Aside0.mk (Kd.S_below HZ9.out hb); replace BK1 := Aside0.mk (blk_below BK1.out hb); replace BK2 := Aside0.mk (blk_below BK2.out hb); replace BK3 := Aside0.mk (blk_below BK3.out hb); replace HB := Aside0.mk (below_step HB.out hb); replace HL := Aside0.mk (And.intro HL.out (below_size hb)); clear hb; clear hcz23 hfz24 hcz25 hfz26 hcz27 hfz28; have hcz30 : w29.cell? ⟨gb1, 0, none⟩ = some (.slice A0_0 l0_0.length c0_0) := (blk_cell BK1.out 0).trans rfl; have hfz31 := blk_frozen BK1.out 0; have hcz32 : w29.cell? ⟨gb2, 0, none⟩ = some (.slice none 0 0) := (blk_cell BK2.out 0).trans rfl; have hfz33 := blk_frozen BK2.out 0; have hcz34 : w29.cell? ⟨gb3, 0, none⟩ = some (.slice A9 t189.length c9) := (blk_cell BK3.out 0).trans rfl; have hfz35 := blk_frozen BK3.out 0) | (go_at_call 66; (with_reducible show Calls _ _ _ w29 _); (with_reducible refine (spec_l01In.calls a1 0 (wrap64 ((l0_0.length : Int) - 1)) true _  Fa3.out).mono ?_); rintro e w36 ⟨rfl, hd_⟩; have hb := hd_.below; clear hd_; replace HZ9 := Aside0.mk (Kd.S_below HZ9.out hb); replace BK1 := Aside0.mk (blk_below BK1.out hb); replace BK2 := Aside0.mk (blk_below BK2.out hb); replace BK3 := Aside0.mk (blk_below BK3.out hb); replace HB := Aside0.mk (below_step HB.out hb); replace HL := Aside0.mk (And.intro HL.out (below_size hb)); clear hb; clear hcz30 hfz31 hcz32 hfz33 hcz34 hfz35; have hcz37 : w36.cell? ⟨gb1, 0, none⟩ = some (.slice A0_0 l0_0.length c0_0) := (blk_cell BK1.out 0).trans rfl; have hfz38 := blk_frozen BK1.out 0; have hcz39 : w36.cell? ⟨gb2, 0, none⟩ = some (.slice none 0 0) := (blk_cell BK2.out 0).trans rfl; have hfz40 := blk_frozen BK2.out 0; have hcz41 : w36.cell? ⟨gb3, 0, none⟩ = some (.slice A9 t189.length c9) := (blk_cell BK3.out 0).trans rfl; have hfz42 := blk_frozen BK3.out 0; have pz_ : 0 ≤ (a1 : Int) := of_decide_eq_true c8b0; have qz_ : a1 < (l0_0.length : Int) := of_decide_eq_true c9b0; obtain ⟨adz, Az_2, cz_2, ez, hz_0, hz_1, hz_2, _, _⟩ := at_T49 HR0_0.out a1 pz_ qz_; have hv_0 := hz_0; have hv_1 := hz_1; have hv_2 := hz_2; rw [← Nbq10.out] at hz_0; cases ez; replace hz_0 := (HB.out.cell (World.block_lt_of_cell? w _ hz_0)).trans hz_0; replace hz_1 := (HB.out.cell (World.block_lt_of_cell? w _ hz_1)).trans hz_1; replace hz_2 := (HB.out.cell (World.block_lt_of_cell? w _ hz_2)).trans hz_2; replace pz_ := eq_true pz_; replace qz_ := eq_true qz_) | ((with_reducible refine gate_store (t := 40) (p := 4) rfl ?_); refine store_event (t := 40) (p := 4) (v := ?vo44_) (w1 := (w36.setCell ⟨gb2, 0, none⟩ (.slice A9 t189.length c9))) ?hg ?ho ?hn ?hr ?_; (case ho => rfl); (case hg => rfl); (case hn => rfl); (case hr => first | (go_simp; done) | (go_simp; rfl)); intro w43 hw; have hk : Kept w36 w43 (fun k_ => k_ = gb2) := (by rw [hw]; exact (Kept.setCell (Kept.refl w36 (fun k_ => k_ = gb2)) (p := ⟨gb2, 0, none⟩) (.inl rfl) (.slice A9 t189.length c9))); have g0_ := GBK2.out; replace HZ9 := Aside0.mk (Kd.S_kept HZ9.out hk (fun k_ (hk_ : (w4.heap.size ≤ k_ ∧ k_ < w9.heap.size)) (hs_ : k_ = gb2) => by have q_ := HL.out; omega)); replace BK1 := Aside0.mk (blk_kept BK1.out hk (fun hs_ => by have q_ := HL.out; have g_ := GBK1.out; have hs2_ : gb1 = gb2 := hs_; omega)); replace BK3 := Aside0.mk (blk_kept BK3.out hk (fun hs_ => by have q_ := HL.out; have g_ := GBK3.out; have hs2_ : gb3 = gb2 := hs_; omega)); clear g0_; replace BK2 := Aside0.mk (show w43.heap[gb2]? = some (.cells #[.slice A9 t189.length c9] 40 (0, 0)) from (by rw [hw]; exact (blk_put (cs := #[.slice none 0 0]) (cs' := #[.slice A9 t189.length c9]) BK2.out 0 _ rfl))); replace HB := Aside0.mk (show Below w.heap.size w w43 from (by rw [hw]; exact (below_set HB.out GW2.out))); replace HL := Aside0.mk (And.intro HL.out hk.1); clear hk hw; clear hcz37 hfz38 hcz39 hfz40 hcz41 hfz42; have hcz45 : w43.cell? ⟨gb1, 0, none⟩ = some (.slice (some adz) l0_0.length c0_0) := (blk_cell BK1.out 0).trans rfl; have hfz46 := blk_frozen BK1.out 0; have hcz47 : w43.cell? ⟨gb2, 0, none⟩ = some (.slice A9 t189.length c9) := (blk_cell BK2.out 0).trans rfl; have hfz48 := blk_frozen BK2.out 0; have hcz49 : w43.cell? ⟨gb3, 0, none⟩ = some (.slice A9 t189.length c9) := (blk_cell BK3.out 0).trans rfl; have hfz50 := blk_frozen BK3.out 0))
            refine bodyPost_ret (results_ct rfl _ _ gb2 40 #[.slice A9 t189.length c9] (0, 0) _ rfl BK2.out Try.underlying40 rfl (by kernel_rfl)) rfl ?_
            exact ⟨_, rfl, Kd.S_mono HZ9.out (fun _ _ => trivial), HB.out⟩
          · replace c11 := Bool.eq_false_iff.mpr c11
            subst c11
            have H1 : (if ((rd_T49 l0_0 a1).f1) = 1000000000 then (some (t189, false)) else (if 4 ≤ 11728124029610 then (if a1 < (t189.length : Int) then (some ((t189.set (a1 : Int).toNat (⟨false, wrap64 (((rd_T49 l0_0 a1).f1) + 1), (List.replicate 4 z103)⟩ : S49)), true)) else (none)) else (none))) = some (r1, r2) := by rw [if_neg (show ¬ (false = true) by decide)] at H; exact H
            clear H
            have H := H1
            clear H1
            by_cases c27 : ((rd_T49 l0_0 a1).f1) = 1000000000
            · rw [if_pos c27] at H
              have c27b0 : (((rd_T49 l0_0 a1).f1) == 1000000000) = true := beq_iff_eq.mpr c27
              have c27b1 : (((rd_T49 l0_0 a1).f1) != 1000000000) = false := bne_eq_false_iff_eq.mpr c27
              clear c27
              simp only [Option.some.injEq, Prod.mk.injEq] at H
              obtain ⟨rfl, rfl⟩ := H
              have Fa1 := A3
              have Fa2 := A4
              have Fa3 := A6
              clear A3 A4 A6
              have HL := Aside0.mk (Nat.le_refl w.heap.size)
              go_enter Try.func97, Try.ntmps97
              go_wp2_with (first | ((with_reducible refine gate_dst (N := 2) rfl ?_); refine box_event ?hg (N := 2) ?hd (cs := #[.slice A0_0 l0_0.length c0_0]) (t := 40) ?hr ?_; (case hd => rfl); (case hg => rfl); (case hr => first | (go_simp; done) | (go_simp; rfl)); intro gb1 hg w1 hbox hb; have GBK1 := Aside0.mk (show gb1 = w.heap.size ∧ gb1 < w1.heap.size from ⟨hg, blk_lt hbox⟩); have GW1 := Aside0.mk (show w.heap.size ≤ gb1 by have q_ := below_size HB.out; rw [hg]; exact q_); have BK1 := Aside0.mk hbox; replace HB := Aside0.mk (below_step HB.out hb); replace HL := Aside0.mk (And.intro HL.out (below_size hb)); clear hb hbox hg; have hcz2 : w1.cell? ⟨gb1, 0, none⟩ = some (.slice A0_0 l0_0.length c0_0) := (blk_cell BK1.out 0).trans rfl; have hfz3 := blk_frozen BK1.out 0) | ((with_reducible refine gate_dst (N := 4) rfl ?_); refine box_event ?hg (N := 4) ?hd (cs := #[.slice none 0 0]) (t := 40) ?hr ?_; (case hd => rfl); (case hg => rfl); (case hr => first | (go_simp; done) | (go_simp; rfl)); intro gb2 hg w4 hbox hb; replace BK1 := Aside0.mk (blk_below BK1.out hb); have GBK2 := Aside0.mk (show gb2 = w1.heap.size ∧ gb2 < w4.heap.size from ⟨hg, blk_lt hbox⟩); have GW2 := Aside0.mk (show w.heap.size ≤ gb2 by have q_ := below_size HB.out; rw [hg]; exact q_); have BK2 := Aside0.mk hbox; replace HB := Aside0.mk (below_step HB.out hb); replace HL := Aside0.mk (And.intro HL.out (below_size hb)); clear hb hbox hg; clear hcz2 hfz3; have hcz5 : w4.cell? ⟨gb1, 0, none⟩ = some (.slice A0_0 l0_0.length c0_0) := (blk_cell BK1.out 0).trans rfl; have hfz6 := blk_frozen BK1.out 0; have hcz7 : w4.cell? ⟨gb2, 0, none⟩ = some (.slice none 0 0) := (blk_cell BK2.out 0).trans rfl; have hfz8 := blk_frozen BK2.out 0) | ((with_reducible refine gate_callee (f := 70) rfl ?_); refine goesL_ (some 8) rfl rfl Try.func70 (by kernel_rfl) rfl #[.agg #[.slice A0_0 l0_0.length c0_0]] rfl (by (try simp only [List.map_toArray, List.map_cons, List.map_nil]); first | done | rfl | (simp only [List.length_drop, List.length_take]; rfl)) ?_; (with_reducible refine (spec_l05Copy.calls k _ _ l0_0 t189 _ ?side1 ?side2 Fa1.out).mono ?_); (case side1 => exact Kd.C_below HR0_0.out HB.out); (case side2 => exact HC0_0.out); rintro e w9 ⟨v9, rfl, ho0, hb⟩; refine ⟨_, rfl, ?_⟩; have HZ9 := Aside0.mk (Kd.S_lower (Kd.S_mono (ok' := fun k_ => (w4.heap.size ≤ k_ ∧ k_ < w9.heap.size)) (Kd.S_bound ho0) (fun k_ hk_ => ⟨hk_.2.1, hk_.2.2.1⟩)) (below_size HB.out)); clear ho0; replace BK1 := Aside0.mk (blk_below BK1.out hb); replace BK2 := Aside0.mk (blk_below BK2.out hb); replace HB := Aside0.mk (below_step HB.out hb); replace HL := Aside0.mk (And.intro HL.out (below_size hb)); clear hb; obtain ⟨A9, c9, e9⟩ := Kd.S_slice HZ9.out; subst e9; clear hcz5 hfz6 hcz7 hfz8; have hcz10 : w9.cell? ⟨gb1, 0, none⟩ = some (.slice A0_0 l0_0.length c0_0) := (blk_cell BK1.out 0).trans rfl; have hfz11 := blk_frozen BK1.out 0; have hcz12 : w9.cell? ⟨gb2, 0, none⟩ = some (.slice none 0 0) := (blk_cell BK2.out 0).trans rfl; have hfz13 := blk_frozen BK2.out 0) | ((with_reducible refine gate_dst (N := 6) rfl ?_); refine box_event ?hg (N := 6) ?hd (cs := #[.slice none 0 0]) (t := 40) ?hr ?_; (case hd => rfl); (case hg => rfl); (case hr => first | (go_simp; done) | (go_simp; rfl)); intro gb3 hg w14 hbox hb; replace HZ9 := Aside0.mk (Kd.S_below HZ9.out hb); replace BK1 := Aside0.mk (blk_below BK1.out hb); replace BK2 := Aside0.mk (blk_below BK2.out hb); have GBK3 := Aside0.mk (show gb3 = w9.heap.size ∧ gb3 < w14.heap.size from ⟨hg, blk_lt hbox⟩); have GW3 := Aside0.mk (show w.heap.size ≤ gb3 by have q_ := below_size HB.out; rw [hg]; exact q_); have BK3 := Aside0.mk hbox; replace HB := Aside0.mk (below_step HB.out hb); replace HL := Aside0.mk (And.intro HL.out (below_size hb)); clear hb hbox hg; clear hcz10 hfz11 hcz12 hfz13; have hcz15 : w14.cell? ⟨gb1, 0, none⟩ = some (.slice A0_0 l0_0.length c0_0) := (blk_cell BK1.out 0).trans rfl; have hfz16 := blk_frozen BK1.out 0; have hcz17 : w14.cell? ⟨gb2, 0, none⟩ = some (.slice none 0 0) := (blk_cell BK2.out 0).trans rfl; have hfz18 := blk_frozen BK2.out 0; have hcz19 : w14.cell? ⟨gb3, 0, none⟩ = some (.slice none 0 0) := (blk_cell BK3.out 0).trans rfl; have hfz20 := blk_frozen BK3.out 0) | ((with_reducible refine gate_store (t := 40) (p := 6) rfl ?_); refine store_event (t := 40) (p := 6) (v := ?vo22_) (w1 := (w14.setCell ⟨gb3, 0, none⟩ (.slice A9 t189.length c9))) ?hg ?ho ?hn ?hr ?_; (case ho => rfl); (case hg => rfl); (case hn => rfl); (case hr => first | (go_simp; done) | (go_simp; rfl)); intro w21 hw; have hk : Kept w14 w21 (fun k_ => k_ = gb3) := (by rw [hw]; exact (Kept.setCell (Kept.refl w14 (fun k_ => k_ = gb3)) (p := ⟨gb3, 0, none⟩) (.inl rfl) (.slice A9 t189.length c9))); have g0_ := GBK3.out; replace HZ9 := Aside0.mk (Kd.S_kept HZ9.out hk (fun k_ (hk_ : (w4.heap.size ≤ k_ ∧ k_ < w9.heap.size)) (hs_ : k_ = gb3) => by have q_ := HL.out; omega)); replace BK1 := Aside0.mk (blk_kept BK1.out hk (fun hs_ => by have q_ := HL.out; have g_ := GBK1.out; have hs2_ : gb1 = gb3 := hs_; omega)); replace BK2 := Aside0.mk (blk_kept BK2.out hk (fun hs_ => by have q_ := HL.out; have g_ := GBK2.out; have hs2_ : gb2 = gb3 := hs_; omega)); clear g0_; replace BK3 := Aside0.mk (show w21.heap[gb3]? = some (.cells #[.slice A9 t189.length c9] 40 (0, 0)) from (by rw [hw]; exact (blk_put (cs := #[.slice none 0 0]) (cs' := #[.slice A9 t189.length c9]) BK3.out 0 _ rfl))); replace HB := Aside0.mk (show Below w.heap.size w w21 from (by rw [hw]; exact (below_set HB.out GW3.out))); replace HL := Aside0.mk (And.intro HL.out hk.1); clear hk hw; clear hcz15 hfz16 hcz17 hfz18 hcz19 hfz20; have hcz23 : w21.cell? ⟨gb1, 0, none⟩ = some (.slice A0_0 l0_0.length c0_0) := (blk_cell BK1.out 0).trans rfl; have hfz24 := blk_frozen BK1.out 0; have hcz25 : w21.cell? ⟨gb2, 0, none⟩ = some (.slice none 0 0) := (blk_cell BK2.out 0).trans rfl; have hfz26 := blk_frozen BK2.out 0; have hcz27 : w21.cell? ⟨gb3, 0, none⟩ = some (.slice A9 t189.length c9) := (blk_cell BK3.out 0).trans rfl; have hfz28 := blk_frozen BK3.out 0) | ((with_reducible refine gate_callee (f := 71) rfl ?_); refine goesL_ (some 10) rfl rfl Try.func71 (by kernel_rfl) rfl #[.agg #[.slice A0_0 l0_0.length c0_0]] rfl (by (try simp only [List.map_toArray, List.map_cons, List.map_nil]); first | done | rfl | (simp only [List.length_drop, List.length_take]; rfl)) ?_; (with_reducible refine (spec_FlashOk.calls k _ _ l0_0 true _ ?side1 ?side2 Fa2.out).mono ?_); (case side1 => exact Kd.C_below HR0_0.out HB.out); (case side2 => exact HC0_0.out); rintro e w29 ⟨rfl, hb⟩; refine ⟨_, rfl, ?_⟩; replace HZ9 := Aside0.mk (Kd.S_below HZ9.out hb); replace BK1 := Aside0.mk (blk_below BK1.out hb); replace BK2 := Aside0.mk (blk_below BK2.out hb); replace BK3 := Aside0.mk (blk_below BK3.out hb); replace HB := Aside0.mk (below_step HB.out hb); replace HL := Aside0.mk (And.intro HL.out (below_size hb)); clear hb; clear hcz23 hfz24 hcz25 hfz26 hcz27 hfz28; have hcz30 : w29.cell? ⟨gb1, 0, none⟩ = some (.slice A0_0 l0_0.length c0_0) := (blk_cell BK1.out 0).trans rfl; have hfz31 := blk_frozen BK1.out 0; have hcz32 : w29.cell? ⟨gb2, 0, none⟩ = some (.slice none 0 0) := (blk_cell BK2.out 0).trans rfl; have hfz33 := blk_frozen BK2.out 0; have hcz34 : w29.cell? ⟨gb3, 0, none⟩ = some (.slice A9 t189.length c9) := (blk_cell BK3.out 0).trans rfl; have hfz35 := blk_frozen BK3.out 0) | (go_at_call 66; (with_reducible show Calls _ _ _ w29 _); (with_reducible refine (spec_l01In.calls a1 0 (wrap64 ((l0_0.length : Int) - 1)) true _  Fa3.out).mono ?_); rintro e w36 ⟨rfl, hd_⟩; have hb := hd_.below; clear hd_; replace HZ9 := Aside0.mk (Kd.S_below HZ9.out hb); replace BK1 := Aside0.mk (blk_below BK1.out hb); replace BK2 := Aside0.mk (blk_below BK2.out hb); replace BK3 := Aside0.mk (blk_below BK3.out hb); replace HB := Aside0.mk (below_step HB.out hb); replace HL := Aside0.mk (And.intro HL.out (below_size hb)); clear hb; clear hcz30 hfz31 hcz32 hfz33 hcz34 hfz35; have hcz37 : w36.cell? ⟨gb1, 0, none⟩ = some (.slice A0_0 l0_0.length c0_0) := (blk_cell BK1.out 0).trans rfl; have hfz38 := blk_frozen BK1.out 0; have hcz39 : w36.cell? ⟨gb2, 0, none⟩ = some (.slice none 0 0) := (blk_cell BK2.out 0).trans rfl; have hfz40 := blk_frozen BK2.out 0; have hcz41 : w36.cell? ⟨gb3, 0, none⟩ = some (.slice A9 t189.length c9) := (blk_cell BK3.out 0).trans rfl; have hfz42 := blk_frozen BK3.out 0; have pz_ : 0 ≤ (a1 : Int) := of_decide_eq_true c8b0; have qz_ : a1 < (l0_0.length : Int) := of_decide_eq_true c9b0; obtain ⟨adz, Az_2, cz_2, ez, hz_0, hz_1, hz_2, _, _⟩ := at_T49 HR0_0.out a1 pz_ qz_; have hv_0 := hz_0; have hv_1 := hz_1; have hv_2 := hz_2; rw [← Nbq10.out] at hz_0; cases ez; replace hz_0 := (HB.out.cell (World.block_lt_of_cell? w _ hz_0)).trans hz_0; replace hz_1 := (HB.out.cell (World.block_lt_of_cell? w _ hz_1)).trans hz_1; replace hz_2 := (HB.out.cell (World.block_lt_of_cell? w _ hz_2)).trans hz_2; replace pz_ := eq_true pz_; replace qz_ := eq_true qz_) | ((with_reducible refine gate_store (t := 40) (p := 4) rfl ?_); refine store_event (t := 40) (p := 4) (v := ?vo44_) (w1 := (w36.setCell ⟨gb2, 0, none⟩ (.slice A9 t189.length c9))) ?hg ?ho ?hn ?hr ?_; (case ho => rfl); (case hg => rfl); (case hn => rfl); (case hr => first | (go_simp; done) | (go_simp; rfl)); intro w43 hw; have hk : Kept w36 w43 (fun k_ => k_ = gb2) := (by rw [hw]; exact (Kept.setCell (Kept.refl w36 (fun k_ => k_ = gb2)) (p := ⟨gb2, 0, none⟩) (.inl rfl) (.slice A9 t189.length c9))); have g0_ := GBK2.out; replace HZ9 := Aside0.mk (Kd.S_kept HZ9.out hk (fun k_ (hk_ : (w4.heap.size ≤ k_ ∧ k_ < w9.heap.size)) (hs_ : k_ = gb2) => by have q_ := HL.out; omega)); replace BK1 := Aside0.mk (blk_kept BK1.out hk (fun hs_ => by have q_ := HL.out; have g_ := GBK1.out; have hs2_ : gb1 = gb2 := hs_; omega)); replace BK3 := Aside0.mk (blk_kept BK3.out hk (fun hs_ => by have q_ := HL.out; have g_ := GBK3.out; have hs2_ : gb3 = gb2 := hs_; omega)); clear g0_; replace BK2 := Aside0.mk (show w43.heap[gb2]? = some (.cells #[.slice A9 t189.length c9] 40 (0, 0)) from (by rw [hw]; exact (blk_put (cs := #[.slice none 0 0]) (cs' := #[.slice A9 t189.length c9]) BK2.out 0 _ rfl))); replace HB := Aside0.mk (show Below w.heap.size w w43 from (by rw [hw]; exact (below_set HB.out GW2.out))); replace HL := Aside0.mk (And.intro HL.out hk.1); clear hk hw; clear hcz37 hfz38 hcz39 hfz40 hcz41 hfz42; have hcz45 : w43.cell? ⟨gb1, 0, none⟩ = some (.slice (some adz) l0_0.length c0_0) := (blk_cell BK1.out 0).trans rfl; have hfz46 := blk_frozen BK1.out 0; have hcz47 : w43.cell? ⟨gb2, 0, none⟩ = some (.slice A9 t189.length c9) := (blk_cell BK2.out 0).trans rfl; have hfz48 := blk_frozen BK2.out 0; have hcz49 : w43.cell? ⟨gb3, 0, none⟩ = some (.slice A9 t189.length c9) := (blk_cell BK3.out 0).trans rfl; have hfz50 := blk_frozen BK3.out 0))
              refine bodyPost_ret (results_ct rfl _ _ gb2 40 #[.slice A9 t189.length c9] (0, 0) _ rfl BK2.out Try.underlying40 rfl (by kernel_rfl)) rfl ?_
              exact ⟨_, rfl, Kd.S_mono HZ9.out (fun _ _ => trivial), HB.out⟩
            · rw [if_neg c27] at H
              have c27b0 : (((rd_T49 l0_0 a1).f1) == 1000000000) = false := beq_eq_false_iff_ne.mpr c27
              have c27b1 : (((rd_T49 l0_0 a1).f1) != 1000000000) = true := bne_iff_ne.mpr c27
              by_cases c43 : 4 ≤ 11728124029610
              · rw [if_pos c43] at H
                have c43b0 := eq_true c43
                have c43b1 : decide (4 ≤ 11728124029610) = true := decide_eq_true c43
                clear c43
                obtain ⟨y198, hy198⟩ : ∃ y_ : List (S103), y_ = (List.replicate 4 z103) := ⟨_, rfl⟩
                replace H : (if a1 < (t189.length : Int) then (some ((t189.set (a1 : Int).toNat (⟨false, wrap64 (((rd_T49 l0_0 a1).f1) + 1), y198⟩ : S49)), true)) else (none)) = some (r1, r2) := by first | (rw [hy198]; with_reducible exact H) | (have H2_ := (Option.bind_some _ _).symm.trans H; rw [hy198]; with_reducible exact H2_) | (have H2_ := (Option.bind_some _ _).symm.trans H; with_reducible exact H2_) | with_reducible exact H | (rw [hy198]; exact H) | exact H
                have Ny198 := Aside0.mk hy198
                clear hy198
                by_cases c44 : a1 < (t189.length : Int)
                · rw [if_pos c44] at H
                  have c44b0 : decide (a1 < (t189.length : Int)) = true := decide_eq_true c44
                  clear c44
                  obtain ⟨y201, hy201⟩ : ∃ y_ : List (S49), y_ = (t189.set (a1 : Int).toNat (⟨false, wrap64 (((rd_T49 l0_0 a1).f1) + 1), y198⟩ : S49)) := ⟨_, rfl⟩
                  replace H : (some (y201, true)) = some (r1, r2) := by first | (rw [hy201]; with_reducible exact H) | (have H2_ := (Option.bind_some _ _).symm.trans H; rw [hy201]; with_reducible exact H2_) | (have H2_ := (Option.bind_some _ _).symm.trans H; with_reducible exact H2_) | with_reducible exact H | (rw [hy201]; exact H) | exact H
                  have Ny201 := Aside0.mk hy201
                  clear hy201
                  simp only [Option.some.injEq, Prod.mk.injEq] at H
                  obtain ⟨rfl, rfl⟩ := H
                  have Fa1 := A3
                  have Fa2 := A4
                  have Fa3 := A6
                  clear A3 A4 A6
                  have HL := Aside0.mk (Nat.le_refl w.heap.size)
                  go_enter Try.func97, Try.ntmps97
                  go_wp2_with (first | ((with_reducible refine gate_dst (N := 2) rfl ?_); refine box_event ?hg (N := 2) ?hd (cs := #[.slice A0_0 l0_0.length c0_0]) (t := 40) ?hr ?_; (case hd => rfl); (case hg => rfl); (case hr => first | (go_simp; done) | (go_simp; rfl)); intro gb1 hg w1 hbox hb; have GBK1 := Aside0.mk (show gb1 = w.heap.size ∧ gb1 < w1.heap.size from ⟨hg, blk_lt hbox⟩); have GW1 := Aside0.mk (show w.heap.size ≤ gb1 by have q_ := below_size HB.out; rw [hg]; exact q_); have BK1 := Aside0.mk hbox; replace HB := Aside0.mk (below_step HB.out hb); replace HL := Aside0.mk (And.intro HL.out (below_size hb)); clear hb hbox hg; have hcz2 : w1.cell? ⟨gb1, 0, none⟩ = some (.slice A0_0 l0_0.length c0_0) := (blk_cell BK1.out 0).trans rfl; have hfz3 := blk_frozen BK1.out 0) | ((with_reducible refine gate_dst (N := 4) rfl ?_); refine box_event ?hg (N := 4) ?hd (cs := #[.slice none 0 0]) (t := 40) ?hr ?_; (case hd => rfl); (case hg => rfl); (case hr => first | (go_simp; done) | (go_simp; rfl)); intro gb2 hg w4 hbox hb; replace BK1 := Aside0.mk (blk_below BK1.out hb); have GBK2 := Aside0.mk (show gb2 = w1.heap.size ∧ gb2 < w4.heap.size from ⟨hg, blk_lt hbox⟩); have GW2 := Aside0.mk (show w.heap.size ≤ gb2 by have q_ := below_size HB.out; rw [hg]; exact q_); have BK2 := Aside0.mk hbox; replace HB := Aside0.mk (below_step HB.out hb); replace HL := Aside0.mk (And.intro HL.out (below_size hb)); clear hb hbox hg; clear hcz2 hfz3; have hcz5 : w4.cell? ⟨gb1, 0, none⟩ = some (.slice A0_0 l0_0.length c0_0) := (blk_cell BK1.out 0).trans rfl; have hfz6 := blk_frozen BK1.out 0; have hcz7 : w4.cell? ⟨gb2, 0, none⟩ = some (.slice none 0 0) := (blk_cell BK2.out 0).trans rfl; have hfz8 := blk_frozen BK2.out 0) | ((with_reducible refine gate_callee (f := 70) rfl ?_); refine goesL_ (some 8) rfl rfl Try.func70 (by kernel_rfl) rfl #[.agg #[.slice A0_0 l0_0.length c0_0]] rfl (by (try simp only [List.map_toArray, List.map_cons, List.map_nil]); first | done | rfl | (simp only [List.length_drop, List.length_take]; rfl)) ?_; (with_reducible refine (spec_l05Copy.calls k _ _ l0_0 t189 _ ?side1 ?side2 Fa1.out).mono ?_); (case side1 => exact Kd.C_below HR0_0.out HB.out); (case side2 => exact HC0_0.out); rintro e w9 ⟨v9, rfl, ho0, hb⟩; refine ⟨_, rfl, ?_⟩; have HZ9 := Aside0.mk (Kd.S_lower (Kd.S_mono (ok' := fun k_ => (w4.heap.size ≤ k_ ∧ k_ < w9.heap.size)) (Kd.S_bound ho0) (fun k_ hk_ => ⟨hk_.2.1, hk_.2.2.1⟩)) (below_size HB.out)); clear ho0; replace BK1 := Aside0.mk (blk_below BK1.out hb); replace BK2 := Aside0.mk (blk_below BK2.out hb); replace HB := Aside0.mk (below_step HB.out hb); replace HL := Aside0.mk (And.intro HL.out (below_size hb)); clear hb; obtain ⟨A9, c9, e9⟩ := Kd.S_slice HZ9.out; subst e9; clear hcz5 hfz6 hcz7 hfz8; have hcz10 : w9.cell? ⟨gb1, 0, none⟩ = some (.slice A0_0 l0_0.length c0_0) := (blk_cell BK1.out 0).trans rfl; have hfz11 := blk_frozen BK1.out 0; have hcz12 : w9.cell? ⟨gb2, 0, none⟩ = some (.slice none 0 0) := (blk_cell BK2.out 0).trans rfl; have hfz13 := blk_frozen BK2.out 0) | ((with_reducible refine gate_dst (N := 6) rfl ?_); refine box_event ?hg (N := 6) ?hd (cs := #[.slice none 0 0]) (t := 40) ?hr ?_; (case hd => rfl); (case hg => rfl); (case hr => first | (go_simp; done) | (go_simp; rfl)); intro gb3 hg w14 hbox hb; replace HZ9 := Aside0.mk (Kd.S_below HZ9.out hb); replace BK1 := Aside0.mk (blk_below BK1.out hb); replace BK2 := Aside0.mk (blk_below BK2.out hb); have GBK3 := Aside0.mk (show gb3 = w9.heap.size ∧ gb3 < w14.heap.size from ⟨hg, blk_lt hbox⟩); have GW3 := Aside0.mk (show w.heap.size ≤ gb3 by have q_ := below_size HB.out; rw [hg]; exact q_); have BK3 := Aside0.mk hbox; replace HB := Aside0.mk (below_step HB.out hb); replace HL := Aside0.mk (And.intro HL.out (below_size hb)); clear hb hbox hg; clear hcz10 hfz11 hcz12 hfz13; have hcz15 : w14.cell? ⟨gb1, 0, none⟩ = some (.slice A0_0 l0_0.length c0_0) := (blk_cell BK1.out 0).trans rfl; have hfz16 := blk_frozen BK1.out 0; have hcz17 : w14.cell? ⟨gb2, 0, none⟩ = some (.slice none 0 0) := (blk_cell BK2.out 0).trans rfl; have hfz18 := blk_frozen BK2.out 0; have hcz19 : w14.cell? ⟨gb3, 0, none⟩ = some (.slice none 0 0) := (blk_cell BK3.out 0).trans rfl; have hfz20 := blk_frozen BK3.out 0) | ((with_reducible refine gate_store (t := 40) (p := 6) rfl ?_); refine store_event (t := 40) (p := 6) (v := ?vo22_) (w1 := (w14.setCell ⟨gb3, 0, none⟩ (.slice A9 t189.length c9))) ?hg ?ho ?hn ?hr ?_; (case ho => rfl); (case hg => rfl); (case hn => rfl); (case hr => first | (go_simp; done) | (go_simp; rfl)); intro w21 hw; have hk : Kept w14 w21 (fun k_ => k_ = gb3) := (by rw [hw]; exact (Kept.setCell (Kept.refl w14 (fun k_ => k_ = gb3)) (p := ⟨gb3, 0, none⟩) (.inl rfl) (.slice A9 t189.length c9))); have g0_ := GBK3.out; replace HZ9 := Aside0.mk (Kd.S_kept HZ9.out hk (fun k_ (hk_ : (w4.heap.size ≤ k_ ∧ k_ < w9.heap.size)) (hs_ : k_ = gb3) => by have q_ := HL.out; omega)); replace BK1 := Aside0.mk (blk_kept BK1.out hk (fun hs_ => by have q_ := HL.out; have g_ := GBK1.out; have hs2_ : gb1 = gb3 := hs_; omega)); replace BK2 := Aside0.mk (blk_kept BK2.out hk (fun hs_ => by have q_ := HL.out; have g_ := GBK2.out; have hs2_ : gb2 = gb3 := hs_; omega)); clear g0_; replace BK3 := Aside0.mk (show w21.heap[gb3]? = some (.cells #[.slice A9 t189.length c9] 40 (0, 0)) from (by rw [hw]; exact (blk_put (cs := #[.slice none 0 0]) (cs' := #[.slice A9 t189.length c9]) BK3.out 0 _ rfl))); replace HB := Aside0.mk (show Below w.heap.size w w21 from (by rw [hw]; exact (below_set HB.out GW3.out))); replace HL := Aside0.mk (And.intro HL.out hk.1); clear hk hw; clear hcz15 hfz16 hcz17 hfz18 hcz19 hfz20; have hcz23 : w21.cell? ⟨gb1, 0, none⟩ = some (.slice A0_0 l0_0.length c0_0) := (blk_cell BK1.out 0).trans rfl; have hfz24 := blk_frozen BK1.out 0; have hcz25 : w21.cell? ⟨gb2, 0, none⟩ = some (.slice none 0 0) := (blk_cell BK2.out 0).trans rfl; have hfz26 := blk_frozen BK2.out 0; have hcz27 : w21.cell? ⟨gb3, 0, none⟩ = some (.slice A9 t189.length c9) := (blk_cell BK3.out 0).trans rfl; have hfz28 := blk_frozen BK3.out 0) | ((with_reducible refine gate_callee (f := 71) rfl ?_); refine goesL_ (some 10) rfl rfl Try.func71 (by kernel_rfl) rfl #[.agg #[.slice A0_0 l0_0.length c0_0]] rfl (by (try simp only [List.map_toArray, List.map_cons, List.map_nil]); first | done | rfl | (simp only [List.length_drop, List.length_take]; rfl)) ?_; (with_reducible refine (spec_FlashOk.calls k _ _ l0_0 true _ ?side1 ?side2 Fa2.out).mono ?_); (case side1 => exact Kd.C_below HR0_0.out HB.out); (case side2 => exact HC0_0.out); rintro e w29 ⟨rfl, hb⟩; refine ⟨_, rfl, ?_⟩; replace HZ9 := Aside0.mk (Kd.S_below HZ9.out hb); replace BK1 := Aside0.mk (blk_below BK1.out hb); replace BK2 := Aside0.mk (blk_below BK2.out hb); replace BK3 := Aside0.mk (blk_below BK3.out hb); replace HB := Aside0.mk (below_step HB.out hb); replace HL := Aside0.mk (And.intro HL.out (below_size hb)); clear hb; clear hcz23 hfz24 hcz25 hfz26 hcz27 hfz28; have hcz30 : w29.cell? ⟨gb1, 0, none⟩ = some (.slice A0_0 l0_0.length c0_0) := (blk_cell BK1.out 0).trans rfl; have hfz31 := blk_frozen BK1.out 0; have hcz32 : w29.cell? ⟨gb2, 0, none⟩ = some (.slice none 0 0) := (blk_cell BK2.out 0).trans rfl; have hfz33 := blk_frozen BK2.out 0; have hcz34 : w29.cell? ⟨gb3, 0, none⟩ = some (.slice A9 t189.length c9) := (blk_cell BK3.out 0).trans rfl; have hfz35 := blk_frozen BK3.out 0) | (go_at_call 66; (with_reducible show Calls _ _ _ w29 _); (with_reducible refine (spec_l01In.calls a1 0 (wrap64 ((l0_0.length : Int) - 1)) true _  Fa3.out).mono ?_); rintro e w36 ⟨rfl, hd_⟩; have hb := hd_.below; clear hd_; replace HZ9 := Aside0.mk (Kd.S_below HZ9.out hb); replace BK1 := Aside0.mk (blk_below BK1.out hb); replace BK2 := Aside0.mk (blk_below BK2.out hb); replace BK3 := Aside0.mk (blk_below BK3.out hb); replace HB := Aside0.mk (below_step HB.out hb); replace HL := Aside0.mk (And.intro HL.out (below_size hb)); clear hb; clear hcz30 hfz31 hcz32 hfz33 hcz34 hfz35; have hcz37 : w36.cell? ⟨gb1, 0, none⟩ = some (.slice A0_0 l0_0.length c0_0) := (blk_cell BK1.out 0).trans rfl; have hfz38 := blk_frozen BK1.out 0; have hcz39 : w36.cell? ⟨gb2, 0, none⟩ = some (.slice none 0 0) := (blk_cell BK2.out 0).trans rfl; have hfz40 := blk_frozen BK2.out 0; have hcz41 : w36.cell? ⟨gb3, 0, none⟩ = some (.slice A9 t189.length c9) := (blk_cell BK3.out 0).trans rfl; have hfz42 := blk_frozen BK3.out 0; have pz_ : 0 ≤ (a1 : Int) := of_decide_eq_true c8b0; have qz_ : a1 < (l0_0.length : Int) := of_decide_eq_true c9b0; obtain ⟨adz, Az_2, cz_2, ez, hz_0, hz_1, hz_2, _, _⟩ := at_T49 HR0_0.out a1 pz_ qz_; have hv_0 := hz_0; have hv_1 := hz_1; have hv_2 := hz_2; rw [← Nbq10.out] at hz_0; cases ez; replace hz_0 := (HB.out.cell (World.block_lt_of_cell? w _ hz_0)).trans hz_0; replace hz_1 := (HB.out.cell (World.block_lt_of_cell? w _ hz_1)).trans hz_1; replace hz_2 := (HB.out.cell (World.block_lt_of_cell? w _ hz_2)).trans hz_2; replace pz_ := eq_true pz_; replace qz_ := eq_true qz_))
                  have pi_ : 0 ≤ (a1 : Int) := of_decide_eq_true c8b0
                  have qi_ : (a1 : Int) < ((t189.length : Int) : Int) := of_decide_eq_true c44b0
                  obtain ⟨go, cg, eg, gbg, glg, _⟩ := Kd.S_form HZ9.out (by omega)
                  (injection eg with ea_ en_ ec_; subst ea_; subst ec_)
                  have GOL := Aside0.mk (show go < w36.heap.size from glg)
                  have GOB := Aside0.mk (show w.heap.size ≤ go from gbg)
                  have GOZ := Aside0.mk (show (w4.heap.size ≤ go ∧ go < w9.heap.size) from (Kd.S_R HZ9.out).1 _ rfl)
                  clear gbg glg
                  replace HZ9 := Aside0.mk (Kd.S_drew HZ9.out)
                  replace BK1 := Aside0.mk (blk_drew BK1.out)
                  replace BK2 := Aside0.mk (blk_drew BK2.out)
                  replace BK3 := Aside0.mk (blk_drew BK3.out)
                  replace HB := Aside0.mk (below_drew1 HB.out)
                  replace HL := Aside0.mk (And.intro HL.out (show w36.heap.size ≤ w36.drew.heap.size from Nat.le_refl _))
                  clear hz_0 hz_1 hz_2 hcz37 hfz38 hcz39 hfz40 hcz41 hfz42
                  refine start_ (n := 14) (S := fun w' => w'.cell? ⟨gb3, 0, none⟩ = some (.slice (some ⟨go, 0, none⟩) t189.length c9) ∧ w'.cell? ⟨gb1, 0, none⟩ = some (.slice (some adz) l0_0.length c0_0) ∧ w'.cell? ⟨(adz.add ((a1).toNat * 3)).block, (adz.add ((a1).toNat * 3)).off + 1, none⟩ = some (.int .i64 ((rd_T49 l0_0 a1).f1))) (ds := [13]) #[false, false, false, false, false, false, false, false, false, false, false, false, false, false] (by kernel_rfl) rfl rfl ⟨(blk_cell BK3.out 0).trans rfl, (blk_cell BK1.out 0).trans rfl, (HB.out.cell (World.block_lt_of_cell? w _ hv_1)).trans hv_1⟩ (fun hHeld => ?_); refine with_tabW spec_Wipe.tab4 spec_Wipe.bits4 (fun HT_ HW_ => ?_)
                  generalize w36.drew = w43 at HZ9 BK1 BK2 BK3 HB HL hHeld ⊢
                  refine pure_ (i := 0) (N := some 39) (v := ?_) (a' := ?_) #[true, false, false, false, false, false, false, false, false, false, false, false, false, false] rfl rfl (any_of HT_.out (by kernel_rfl)) (fun _ _ _ h => h) (Or.inl ⟨by rfl, ?_⟩) ?_ ?_
                  rotate_left
                  · intro w'
                    go_simp
                    with_reducible rfl
                  rotate_left
                  · simp only [Act.put, List.setIfInBounds_toArray, List.set_cons_zero, List.set_cons_succ, i64_w, i32_w]
                    rfl
                  refine pure_ (i := 2) (N := some 41) (v := ?_) (a' := ?_) #[true, false, true, false, false, false, false, false, false, false, false, false, false, false] rfl rfl (any_of HT_.out (by kernel_rfl)) (fun _ _ _ h => h) (Or.inl ⟨by rfl, ?_⟩) ?_ ?_
                  rotate_left
                  · intro w'
                    go_simp
                    with_reducible rfl
                  rotate_left
                  · simp only [Act.put, List.setIfInBounds_toArray, List.set_cons_zero, List.set_cons_succ, i64_w, i32_w]
                    rfl
                  refine pure_ (i := 3) (N := some 42) (v := ?_) (a' := ?_) #[true, false, true, true, false, false, false, false, false, false, false, false, false, false] rfl rfl (any_of HT_.out (by kernel_rfl)) (fun _ _ _ h => h) (Or.inl ⟨by rfl, ?_⟩) ?_ ?_
                  rotate_left
                  · intro w'
                    go_simp
                    with_reducible rfl
                  rotate_left
                  · simp only [Act.put, List.setIfInBounds_toArray, List.set_cons_zero, List.set_cons_succ, i64_w, i32_w]
                    rfl
                  refine pure_ (i := 5) (N := some 44) (v := ?_) (a' := ?_) #[true, false, true, true, false, true, false, false, false, false, false, false, false, false] rfl rfl (any_of HT_.out (by kernel_rfl)) (fun _ _ _ h => h) (Or.inl ⟨by rfl, ?_⟩) ?_ ?_
                  rotate_left
                  · intro w'
                    go_simp
                    with_reducible rfl
                  rotate_left
                  · simp only [Act.put, List.setIfInBounds_toArray, List.set_cons_zero, List.set_cons_succ, i64_w, i32_w]
                    rfl
                  refine take_ (i := 1) (N := some 40) (v := ?_) (a' := ?_) #[true, true, true, true, false, true, false, false, false, false, false, false, false, false] rfl rfl (take_ofW HT_.out HW_.out (by kernel_rfl)) (fun _ _ _ h => h) (Or.inl ⟨by rfl, ?_⟩) hHeld ?_ ?_
                  rotate_left
                  · rintro w' ⟨s0, s1, s2⟩
                    go_simp
                    with_reducible rfl
                  rotate_left
                  · simp only [Act.put, List.setIfInBounds_toArray, List.set_cons_zero, List.set_cons_succ, i64_w, i32_w]
                    rfl
                  refine take_ (i := 4) (N := some 43) (v := ?_) (a' := ?_) #[true, true, true, true, true, true, false, false, false, false, false, false, false, false] rfl rfl (take_ofW HT_.out HW_.out (by kernel_rfl)) (fun _ _ _ h => h) (Or.inl ⟨by rfl, ?_⟩) hHeld ?_ ?_
                  rotate_left
                  · rintro w' ⟨s0, s1, s2⟩
                    go_simp
                    with_reducible rfl
                  rotate_left
                  · simp only [Act.put, List.setIfInBounds_toArray, List.set_cons_zero, List.set_cons_succ, i64_w, i32_w]
                    rfl
                  refine pure_ (i := 6) (N := some 45) (v := ?_) (a' := ?_) #[true, true, true, true, true, true, true, false, false, false, false, false, false, false] rfl rfl (any_of HT_.out (by kernel_rfl)) (fun _ _ _ h => h) (Or.inl ⟨by rfl, ?_⟩) ?_ ?_
                  rotate_left
                  · intro w'
                    go_simp
                    with_reducible rfl
                  rotate_left
                  · simp only [Act.put, List.setIfInBounds_toArray, List.set_cons_zero, List.set_cons_succ, i64_w, i32_w]
                    rfl
                  refine pure_ (i := 7) (N := some 46) (v := ?_) (a' := ?_) #[true, true, true, true, true, true, true, true, false, false, false, false, false, false] rfl rfl (any_of HT_.out (by kernel_rfl)) (fun _ _ _ h => h) (Or.inl ⟨by rfl, ?_⟩) ?_ ?_
                  rotate_left
                  · intro w'
                    go_simp
                    with_reducible rfl
                  rotate_left
                  · simp only [Act.put, List.setIfInBounds_toArray, List.set_cons_zero, List.set_cons_succ, i64_w, i32_w]
                    rfl
                  refine take_ (i := 8) (N := some 47) (v := ?_) (a' := ?_) #[true, true, true, true, true, true, true, true, true, false, false, false, false, false] rfl rfl (take_ofW HT_.out HW_.out (by kernel_rfl)) (fun _ _ _ h => h) (Or.inl ⟨by rfl, ?_⟩) hHeld ?_ ?_
                  rotate_left
                  · rintro w' ⟨s0, s1, s2⟩
                    go_simp
                    with_reducible rfl
                  rotate_left
                  · simp only [Act.put, List.setIfInBounds_toArray, List.set_cons_zero, List.set_cons_succ, i64_w, i32_w]
                    rfl
                  refine pure_ (i := 9) (N := some 48) (v := ?_) (a' := ?_) #[true, true, true, true, true, true, true, true, true, true, false, false, false, false] rfl rfl (any_of HT_.out (by kernel_rfl)) (fun _ _ _ h => h) (Or.inl ⟨by rfl, ?_⟩) ?_ ?_
                  rotate_left
                  · intro w'
                    go_simp
                    with_reducible rfl
                  rotate_left
                  · simp only [Act.put, List.setIfInBounds_toArray, List.set_cons_zero, List.set_cons_succ, i64_w, i32_w]
                    rfl
                  refine one_ (i := 10) (N := some 49) #[true, true, true, true, true, true, true, true, true, true, true, false, false, false] rfl rfl (one_of HT_.out (by kernel_rfl)) (by decide) (fun K hK => ?_)
                  refine Kd.R_make_step k103 _ 103 (by rfl) (N := 49) rfl 47 _ _ rfl 4 rfl rfl Try.underlying47 (.agg #[(.int .i64 0), (.string ⟨#[]⟩)]) 24 info103 rfl (by decide) (by omega) z103 (ok := fun _ => True) (okp := fun _ => True) (k103_mkM _ _ _ z103 ) (fun _ hk => hk) trivial (by omega) (by omega) (Below.refl _ _) (Nat.le_refl _) ?_
                  intro v10 w44 ho61 hb hg_ hnew_
                  clear hg_ hnew_
                  (first | rw [← Ny198.out] at ho61 | (simp only [Int.reduceToNat] at ho61; rw [← Ny198.out] at ho61))
                  have HZ10 := Aside0.mk (Kd.R_lower (Kd.R_mono (ok' := fun k_ => (w43.heap.size ≤ k_ ∧ k_ < w44.heap.size)) (Kd.R_bound ho61) (fun k_ hk_ => ⟨hk_.2.1, hk_.2.2.1⟩)) (below_size HB.out))
                  replace HZ9 := Aside0.mk (Kd.S_below HZ9.out hb)
                  replace BK1 := Aside0.mk (blk_below BK1.out hb)
                  replace BK2 := Aside0.mk (blk_below BK2.out hb)
                  replace BK3 := Aside0.mk (blk_below BK3.out hb)
                  replace HB := Aside0.mk (below_step HB.out hb)
                  replace HL := Aside0.mk (And.intro HL.out (below_size hb))
                  clear hb ho61
                  obtain ⟨A10, c10, e10⟩ := Kd.R_slice HZ10.out
                  subst e10
                  refine hK.out _ _ ⟨(blk_cell BK3.out 0).trans rfl, (blk_cell BK1.out 0).trans rfl, (HB.out.cell (World.block_lt_of_cell? w _ hv_1)).trans hv_1⟩ (fun hHeld => ?_)
                  clear hK K
                  refine norm_ (a' := ?_) ?_ ?_
                  rotate_left
                  · show Act.put _ (some 49) _ = _
                    simp only [Act.put, List.setIfInBounds_toArray, List.set_cons_zero, List.set_cons_succ, i64_w, i32_w]
                    rfl
                  have pt_ := eq_true pi_
                  have qt_ := eq_true qi_
                  refine pure_ (i := 11) (N := some 50) (v := ?_) (a' := ?_) #[true, true, true, true, true, true, true, true, true, true, true, true, false, false] rfl rfl (any_of HT_.out (by kernel_rfl)) (fun _ _ _ h => h) (Or.inl ⟨by rfl, ?_⟩) ?_ ?_
                  rotate_left
                  · intro w'
                    go_simp
                    with_reducible rfl
                  rotate_left
                  · simp only [Act.put, List.setIfInBounds_toArray, List.set_cons_zero, List.set_cons_succ, i64_w, i32_w]
                    rfl
                  refine pure_ (i := 12) (N := some 51) (v := ?_) (a' := ?_) #[true, true, true, true, true, true, true, true, true, true, true, true, true, false] rfl rfl (any_of HT_.out (by kernel_rfl)) (fun _ _ _ h => h) (Or.inl ⟨by rfl, ?_⟩) ?_ ?_
                  rotate_left
                  · intro w'
                    go_simp
                    with_reducible rfl
                  rotate_left
                  · simp only [Act.put, List.setIfInBounds_toArray, List.set_cons_zero, List.set_cons_succ, i64_w, i32_w]
                    rfl
                  obtain ⟨oke, ce, _, hMe, hcce, hfre, _, _⟩ := Kd.S_elem HZ9.out z49 (a1 : Int) pi_ qi_
                  obtain ⟨vle, rfl, _⟩ := k49_openM hMe
                  have hxe0 : w44.cell? ⟨go, (a1 : Int).toNat * 3, none⟩ = some (.bool (rd_T49 t189 a1).f0) := hcce 0 _ rfl
                  have hxe1 : w44.cell? ⟨go, (a1 : Int).toNat * 3 + 1, none⟩ = some (.int .i64 (rd_T49 t189 a1).f1) := hcce 1 _ rfl
                  have hxe2 : w44.cell? ⟨go, (a1 : Int).toNat * 3 + 2, none⟩ = some (vle) := hcce 2 _ rfl
                  have hfe0 : w44.frozen? ⟨go, (a1 : Int).toNat * 3, none⟩ = false := hfre 0
                  have hfe1 : w44.frozen? ⟨go, (a1 : Int).toNat * 3 + 1, none⟩ = false := hfre 1
                  have hfe2 : w44.frozen? ⟨go, (a1 : Int).toNat * 3 + 2, none⟩ = false := hfre 2
                  have HP := Kd.S_put HZ9.out z49 (a1 : Int) pi_ qi_ 0 [.bool false, .int .i64 (wrap64 ((rd_T49 l0_0 a1).f1 + 1)), .slice A10 y198.length c10] (show 0 + 3 ≤ 3 by decide) (okv := fun k_ => (w43.heap.size ≤ k_ ∧ k_ < w44.heap.size)) (fun k_ (h1_ : (w4.heap.size ≤ k_ ∧ k_ < w9.heap.size)) (h2_ : (w43.heap.size ≤ k_ ∧ k_ < w44.heap.size)) => by have q_ := HL.out; omega) (fun k_ (h2_ : (w43.heap.size ≤ k_ ∧ k_ < w44.heap.size)) => by have q_ := HL.out; have z_ := GOZ.out; omega) (x' := (⟨false, wrap64 ((rd_T49 l0_0 a1).f1 + 1), y198⟩ : S49)) (fun okp c hM_ => by obtain ⟨v_, rfl, g_⟩ := k49_openM hM_; exact k49_mkM _ _ _ (⟨false, wrap64 ((rd_T49 l0_0 a1).f1 + 1), y198⟩ : S49) (Kd.R_mono HZ10.out (fun _ h_ => .inr h_)))
                  refine last_ (i := 13) (N := none) #[true, true, true, true, true, true, true, true, true, true, true, true, true, true] rfl rfl (one_of HT_.out (by kernel_rfl)) (by decide) (fun K hK => ?_)
                  refine skip_ (w1 := ?_) (by rfl) rfl ?_ ?_
                  rotate_left
                  · go_simp
                    rfl
                  refine hK.out _ _ ?_
                  clear hK K
                  refine done_ (done_of HT_.out (by kernel_rfl)) ?_
                  have hk : Kept w44 (((w44.setCell ⟨go, (a1 : Int).toNat * 3, none⟩ (.bool false)).setCell ⟨go, (a1 : Int).toNat * 3 + 1, none⟩ (.int .i64 (wrap64 ((rd_T49 l0_0 a1).f1 + 1)))).setCell ⟨go, (a1 : Int).toNat * 3 + 2, none⟩ (.slice A10 y198.length c10)) (fun k_ => k_ = go) := (Kept.setCell (Kept.setCell (Kept.setCell (Kept.refl w44 (fun k_ => k_ = go)) (p := ⟨go, (a1 : Int).toNat * 3, none⟩) (.inl rfl) (.bool false)) (p := ⟨go, (a1 : Int).toNat * 3 + 1, none⟩) (.inl rfl) (.int .i64 (wrap64 ((rd_T49 l0_0 a1).f1 + 1)))) (p := ⟨go, (a1 : Int).toNat * 3 + 2, none⟩) (.inl rfl) (.slice A10 y198.length c10))
                  have nz_ : Aside0 (Kd.S k49 49 (((w44.setCell ⟨go, (a1 : Int).toNat * 3, none⟩ (.bool false)).setCell ⟨go, (a1 : Int).toNat * 3 + 1, none⟩ (.int .i64 (wrap64 ((rd_T49 l0_0 a1).f1 + 1)))).setCell ⟨go, (a1 : Int).toNat * 3 + 2, none⟩ (.slice A10 y198.length c10)) w.heap.size (fun k_ => ((w4.heap.size ≤ k_ ∧ k_ < w9.heap.size) ∨ (w43.heap.size ≤ k_ ∧ k_ < w44.heap.size))) (.slice (some ⟨go, 0, none⟩) t189.length c9) y201) := ⟨by rw [Ny201.out]; exact HP.1⟩
                  have nb1_ : Aside0 ((((w44.setCell ⟨go, (a1 : Int).toNat * 3, none⟩ (.bool false)).setCell ⟨go, (a1 : Int).toNat * 3 + 1, none⟩ (.int .i64 (wrap64 ((rd_T49 l0_0 a1).f1 + 1)))).setCell ⟨go, (a1 : Int).toNat * 3 + 2, none⟩ (.slice A10 y198.length c10)).heap[gb1]? = some (.cells #[.slice (some adz) l0_0.length c0_0] 40 (0, 0))) := ⟨blk_kept BK1.out hk (fun hs_ => by have q_ := HL.out; have g_ := GBK1.out; have z_ := GOZ.out; have hs2_ : gb1 = go := hs_; omega)⟩
                  have nb2_ : Aside0 ((((w44.setCell ⟨go, (a1 : Int).toNat * 3, none⟩ (.bool false)).setCell ⟨go, (a1 : Int).toNat * 3 + 1, none⟩ (.int .i64 (wrap64 ((rd_T49 l0_0 a1).f1 + 1)))).setCell ⟨go, (a1 : Int).toNat * 3 + 2, none⟩ (.slice A10 y198.length c10)).heap[gb2]? = some (.cells #[.slice none 0 0] 40 (0, 0))) := ⟨blk_kept BK2.out hk (fun hs_ => by have q_ := HL.out; have g_ := GBK2.out; have z_ := GOZ.out; have hs2_ : gb2 = go := hs_; omega)⟩
                  have nb3_ : Aside0 ((((w44.setCell ⟨go, (a1 : Int).toNat * 3, none⟩ (.bool false)).setCell ⟨go, (a1 : Int).toNat * 3 + 1, none⟩ (.int .i64 (wrap64 ((rd_T49 l0_0 a1).f1 + 1)))).setCell ⟨go, (a1 : Int).toNat * 3 + 2, none⟩ (.slice A10 y198.length c10)).heap[gb3]? = some (.cells #[.slice (some ⟨go, 0, none⟩) t189.length c9] 40 (0, 0))) := ⟨blk_kept BK3.out hk (fun hs_ => by have q_ := HL.out; have g_ := GBK3.out; have z_ := GOZ.out; have hs2_ : gb3 = go := hs_; omega)⟩
                  have nB_ : Aside0 (Below w.heap.size w (((w44.setCell ⟨go, (a1 : Int).toNat * 3, none⟩ (.bool false)).setCell ⟨go, (a1 : Int).toNat * 3 + 1, none⟩ (.int .i64 (wrap64 ((rd_T49 l0_0 a1).f1 + 1)))).setCell ⟨go, (a1 : Int).toNat * 3 + 2, none⟩ (.slice A10 y198.length c10))) := ⟨(below_set (below_set (below_set HB.out GOB.out) GOB.out) GOB.out)⟩
                  have nL_ : Aside0 (w44.heap.size ≤ (((w44.setCell ⟨go, (a1 : Int).toNat * 3, none⟩ (.bool false)).setCell ⟨go, (a1 : Int).toNat * 3 + 1, none⟩ (.int .i64 (wrap64 ((rd_T49 l0_0 a1).f1 + 1)))).setCell ⟨go, (a1 : Int).toNat * 3 + 2, none⟩ (.slice A10 y198.length c10)).heap.size) := ⟨hk.1⟩
                  clear HZ9 HB hk HP hcce hfre hMe hxe0 hxe1 hxe2 hfe0 hfe1 hfe2 BK1 BK2 BK3
                  generalize (((w44.setCell ⟨go, (a1 : Int).toNat * 3, none⟩ (.bool false)).setCell ⟨go, (a1 : Int).toNat * 3 + 1, none⟩ (.int .i64 (wrap64 ((rd_T49 l0_0 a1).f1 + 1)))).setCell ⟨go, (a1 : Int).toNat * 3 + 2, none⟩ (.slice A10 y198.length c10)) = w45 at nz_ nb1_ nb2_ nb3_ nB_ nL_ ⊢
                  have HZ9 := nz_
                  have HB := nB_
                  replace HL := Aside0.mk (And.intro HL.out nL_.out)
                  have BK1 := nb1_
                  have BK2 := nb2_
                  have BK3 := nb3_
                  clear nz_ nB_ nL_ nb1_ nb2_ nb3_
                  have hcz46 : w45.cell? ⟨gb1, 0, none⟩ = some (.slice (some adz) l0_0.length c0_0) := (blk_cell BK1.out 0).trans rfl
                  have hfz47 := blk_frozen BK1.out 0
                  have hcz48 : w45.cell? ⟨gb2, 0, none⟩ = some (.slice none 0 0) := (blk_cell BK2.out 0).trans rfl
                  have hfz49 := blk_frozen BK2.out 0
                  have hcz50 : w45.cell? ⟨gb3, 0, none⟩ = some (.slice (some ⟨go, 0, none⟩) t189.length c9) := (blk_cell BK3.out 0).trans rfl
                  have hfz51 := blk_frozen BK3.out 0
                  go_wp2_with (first | ((with_reducible refine gate_store (t := 40) (p := 4) rfl ?_); refine store_event (t := 40) (p := 4) (v := ?vo53_) (w1 := (w45.setCell ⟨gb2, 0, none⟩ (.slice (some ⟨go, 0, none⟩) t189.length c9))) ?hg ?ho ?hn ?hr ?_; (case ho => rfl); (case hg => rfl); (case hn => rfl); (case hr => first | (go_simp; done) | (go_simp; rfl)); intro w52 hw; have hk : Kept w45 w52 (fun k_ => k_ = gb2) := (by rw [hw]; exact (Kept.setCell (Kept.refl w45 (fun k_ => k_ = gb2)) (p := ⟨gb2, 0, none⟩) (.inl rfl) (.slice (some ⟨go, 0, none⟩) t189.length c9))); have g0_ := GBK2.out; replace HZ9 := Aside0.mk (Kd.S_kept HZ9.out hk (fun k_ (hk_ : ((w4.heap.size ≤ k_ ∧ k_ < w9.heap.size) ∨ (w43.heap.size ≤ k_ ∧ k_ < w44.heap.size))) (hs_ : k_ = gb2) => by have q_ := HL.out; omega)); replace BK1 := Aside0.mk (blk_kept BK1.out hk (fun hs_ => by have q_ := HL.out; have g_ := GBK1.out; have hs2_ : gb1 = gb2 := hs_; omega)); replace BK3 := Aside0.mk (blk_kept BK3.out hk (fun hs_ => by have q_ := HL.out; have g_ := GBK3.out; have hs2_ : gb3 = gb2 := hs_; omega)); clear g0_; replace BK2 := Aside0.mk (show w52.heap[gb2]? = some (.cells #[.slice (some ⟨go, 0, none⟩) t189.length c9] 40 (0, 0)) from (by rw [hw]; exact (blk_put (cs := #[.slice none 0 0]) (cs' := #[.slice (some ⟨go, 0, none⟩) t189.length c9]) BK2.out 0 _ rfl))); replace HB := Aside0.mk (show Below w.heap.size w w52 from (by rw [hw]; exact (below_set HB.out GW2.out))); replace HL := Aside0.mk (And.intro HL.out hk.1); clear hk hw; clear hcz46 hfz47 hcz48 hfz49 hcz50 hfz51; have hcz54 : w52.cell? ⟨gb1, 0, none⟩ = some (.slice (some adz) l0_0.length c0_0) := (blk_cell BK1.out 0).trans rfl; have hfz55 := blk_frozen BK1.out 0; have hcz56 : w52.cell? ⟨gb2, 0, none⟩ = some (.slice (some ⟨go, 0, none⟩) t189.length c9) := (blk_cell BK2.out 0).trans rfl; have hfz57 := blk_frozen BK2.out 0; have hcz58 : w52.cell? ⟨gb3, 0, none⟩ = some (.slice (some ⟨go, 0, none⟩) t189.length c9) := (blk_cell BK3.out 0).trans rfl; have hfz59 := blk_frozen BK3.out 0))
                  refine bodyPost_ret (results_ct rfl _ _ gb2 40 #[.slice (some ⟨go, 0, none⟩) t189.length c9] (0, 0) _ rfl BK2.out Try.underlying40 rfl (by kernel_rfl)) rfl ?_
                  exact ⟨_, rfl, Kd.S_mono HZ9.out (fun _ _ => trivial), HB.out⟩
                · rw [if_neg c44] at H
                  exact absurd H (by simp)
              · rw [if_neg c43] at H
                exact absurd H (by simp)
        · rw [if_neg c9] at H
          exact absurd H (by simp)
      · rw [if_neg c8] at H
        exact absurd H (by simp)
    · replace c7 := Bool.eq_false_iff.mpr c7
      subst c7
      have H1 : (some (t189, false)) = some (r1, r2) := by rw [if_neg (show ¬ (false = true) by decide)] at H; exact H
      clear H
      have H := H1
      clear H1
      simp only [Option.some.injEq, Prod.mk.injEq] at H
      obtain ⟨rfl, rfl⟩ := H
      have Fa1 := A3
      have Fa2 := A4
      have Fa3 := A6
      clear A3 A4 A6
      have HL := Aside0.mk (Nat.le_refl w.heap.size)
      go_enter Try.func97, Try.ntmps97
      go_wp2_with (first | ((with_reducible refine gate_dst (N := 2) rfl ?_); refine box_event ?hg (N := 2) ?hd (cs := #[.slice A0_0 l0_0.length c0_0]) (t := 40) ?hr ?_; (case hd => rfl); (case hg => rfl); (case hr => first | (go_simp; done) | (go_simp; rfl)); intro gb1 hg w1 hbox hb; have GBK1 := Aside0.mk (show gb1 = w.heap.size ∧ gb1 < w1.heap.size from ⟨hg, blk_lt hbox⟩); have GW1 := Aside0.mk (show w.heap.size ≤ gb1 by have q_ := below_size HB.out; rw [hg]; exact q_); have BK1 := Aside0.mk hbox; replace HB := Aside0.mk (below_step HB.out hb); replace HL := Aside0.mk (And.intro HL.out (below_size hb)); clear hb hbox hg; have hcz2 : w1.cell? ⟨gb1, 0, none⟩ = some (.slice A0_0 l0_0.length c0_0) := (blk_cell BK1.out 0).trans rfl; have hfz3 := blk_frozen BK1.out 0) | ((with_reducible refine gate_dst (N := 4) rfl ?_); refine box_event ?hg (N := 4) ?hd (cs := #[.slice none 0 0]) (t := 40) ?hr ?_; (case hd => rfl); (case hg => rfl); (case hr => first | (go_simp; done) | (go_simp; rfl)); intro gb2 hg w4 hbox hb; replace BK1 := Aside0.mk (blk_below BK1.out hb); have GBK2 := Aside0.mk (show gb2 = w1.heap.size ∧ gb2 < w4.heap.size from ⟨hg, blk_lt hbox⟩); have GW2 := Aside0.mk (show w.heap.size ≤ gb2 by have q_ := below_size HB.out; rw [hg]; exact q_); have BK2 := Aside0.mk hbox; replace HB := Aside0.mk (below_step HB.out hb); replace HL := Aside0.mk (And.intro HL.out (below_size hb)); clear hb hbox hg; clear hcz2 hfz3; have hcz5 : w4.cell? ⟨gb1, 0, none⟩ = some (.slice A0_0 l0_0.length c0_0) := (blk_cell BK1.out 0).trans rfl; have hfz6 := blk_frozen BK1.out 0; have hcz7 : w4.cell? ⟨gb2, 0, none⟩ = some (.slice none 0 0) := (blk_cell BK2.out 0).trans rfl; have hfz8 := blk_frozen BK2.out 0) | ((with_reducible refine gate_callee (f := 70) rfl ?_); refine goesL_ (some 8) rfl rfl Try.func70 (by kernel_rfl) rfl #[.agg #[.slice A0_0 l0_0.length c0_0]] rfl (by (try simp only [List.map_toArray, List.map_cons, List.map_nil]); first | done | rfl | (simp only [List.length_drop, List.length_take]; rfl)) ?_; (with_reducible refine (spec_l05Copy.calls k _ _ l0_0 t189 _ ?side1 ?side2 Fa1.out).mono ?_); (case side1 => exact Kd.C_below HR0_0.out HB.out); (case side2 => exact HC0_0.out); rintro e w9 ⟨v9, rfl, ho0, hb⟩; refine ⟨_, rfl, ?_⟩; have HZ9 := Aside0.mk (Kd.S_lower (Kd.S_mono (ok' := fun k_ => (w4.heap.size ≤ k_ ∧ k_ < w9.heap.size)) (Kd.S_bound ho0) (fun k_ hk_ => ⟨hk_.2.1, hk_.2.2.1⟩)) (below_size HB.out)); clear ho0; replace BK1 := Aside0.mk (blk_below BK1.out hb); replace BK2 := Aside0.mk (blk_below BK2.out hb); replace HB := Aside0.mk (below_step HB.out hb); replace HL := Aside0.mk (And.intro HL.out (below_size hb)); clear hb; obtain ⟨A9, c9, e9⟩ := Kd.S_slice HZ9.out; subst e9; clear hcz5 hfz6 hcz7 hfz8; have hcz10 : w9.cell? ⟨gb1, 0, none⟩ = some (.slice A0_0 l0_0.length c0_0) := (blk_cell BK1.out 0).trans rfl; have hfz11 := blk_frozen BK1.out 0; have hcz12 : w9.cell? ⟨gb2, 0, none⟩ = some (.slice none 0 0) := (blk_cell BK2.out 0).trans rfl; have hfz13 := blk_frozen BK2.out 0) | ((with_reducible refine gate_dst (N := 6) rfl ?_); refine box_event ?hg (N := 6) ?hd (cs := #[.slice none 0 0]) (t := 40) ?hr ?_; (case hd => rfl); (case hg => rfl); (case hr => first | (go_simp; done) | (go_simp; rfl)); intro gb3 hg w14 hbox hb; replace HZ9 := Aside0.mk (Kd.S_below HZ9.out hb); replace BK1 := Aside0.mk (blk_below BK1.out hb); replace BK2 := Aside0.mk (blk_below BK2.out hb); have GBK3 := Aside0.mk (show gb3 = w9.heap.size ∧ gb3 < w14.heap.size from ⟨hg, blk_lt hbox⟩); have GW3 := Aside0.mk (show w.heap.size ≤ gb3 by have q_ := below_size HB.out; rw [hg]; exact q_); have BK3 := Aside0.mk hbox; replace HB := Aside0.mk (below_step HB.out hb); replace HL := Aside0.mk (And.intro HL.out (below_size hb)); clear hb hbox hg; clear hcz10 hfz11 hcz12 hfz13; have hcz15 : w14.cell? ⟨gb1, 0, none⟩ = some (.slice A0_0 l0_0.length c0_0) := (blk_cell BK1.out 0).trans rfl; have hfz16 := blk_frozen BK1.out 0; have hcz17 : w14.cell? ⟨gb2, 0, none⟩ = some (.slice none 0 0) := (blk_cell BK2.out 0).trans rfl; have hfz18 := blk_frozen BK2.out 0; have hcz19 : w14.cell? ⟨gb3, 0, none⟩ = some (.slice none 0 0) := (blk_cell BK3.out 0).trans rfl; have hfz20 := blk_frozen BK3.out 0) | ((with_reducible refine gate_store (t := 40) (p := 6) rfl ?_); refine store_event (t := 40) (p := 6) (v := ?vo22_) (w1 := (w14.setCell ⟨gb3, 0, none⟩ (.slice A9 t189.length c9))) ?hg ?ho ?hn ?hr ?_; (case ho => rfl); (case hg => rfl); (case hn => rfl); (case hr => first | (go_simp; done) | (go_simp; rfl)); intro w21 hw; have hk : Kept w14 w21 (fun k_ => k_ = gb3) := (by rw [hw]; exact (Kept.setCell (Kept.refl w14 (fun k_ => k_ = gb3)) (p := ⟨gb3, 0, none⟩) (.inl rfl) (.slice A9 t189.length c9))); have g0_ := GBK3.out; replace HZ9 := Aside0.mk (Kd.S_kept HZ9.out hk (fun k_ (hk_ : (w4.heap.size ≤ k_ ∧ k_ < w9.heap.size)) (hs_ : k_ = gb3) => by have q_ := HL.out; omega)); replace BK1 := Aside0.mk (blk_kept BK1.out hk (fun hs_ => by have q_ := HL.out; have g_ := GBK1.out; have hs2_ : gb1 = gb3 := hs_; omega)); replace BK2 := Aside0.mk (blk_kept BK2.out hk (fun hs_ => by have q_ := HL.out; have g_ := GBK2.out; have hs2_ : gb2 = gb3 := hs_; omega)); clear g0_; replace BK3 := Aside0.mk (show w21.heap[gb3]? = some (.cells #[.slice A9 t189.length c9] 40 (0, 0)) from (by rw [hw]; exact (blk_put (cs := #[.slice none 0 0]) (cs' := #[.slice A9 t189.length c9]) BK3.out 0 _ rfl))); replace HB := Aside0.mk (show Below w.heap.size w w21 from (by rw [hw]; exact (below_set HB.out GW3.out))); replace HL := Aside0.mk (And.intro HL.out hk.1); clear hk hw; clear hcz15 hfz16 hcz17 hfz18 hcz19 hfz20; have hcz23 : w21.cell? ⟨gb1, 0, none⟩ = some (.slice A0_0 l0_0.length c0_0) := (blk_cell BK1.out 0).trans rfl; have hfz24 := blk_frozen BK1.out 0; have hcz25 : w21.cell? ⟨gb2, 0, none⟩ = some (.slice none 0 0) := (blk_cell BK2.out 0).trans rfl; have hfz26 := blk_frozen BK2.out 0; have hcz27 : w21.cell? ⟨gb3, 0, none⟩ = some (.slice A9 t189.length c9) := (blk_cell BK3.out 0).trans rfl; have hfz28 := blk_frozen BK3.out 0) | ((with_reducible refine gate_callee (f := 71) rfl ?_); refine goesL_ (some 10) rfl rfl Try.func71 (by kernel_rfl) rfl #[.agg #[.slice A0_0 l0_0.length c0_0]] rfl (by (try simp only [List.map_toArray, List.map_cons, List.map_nil]); first | done | rfl | (simp only [List.length_drop, List.length_take]; rfl)) ?_; (with_reducible refine (spec_FlashOk.calls k _ _ l0_0 true _ ?side1 ?side2 Fa2.out).mono ?_); (case side1 => exact Kd.C_below HR0_0.out HB.out); (case side2 => exact HC0_0.out); rintro e w29 ⟨rfl, hb⟩; refine ⟨_, rfl, ?_⟩; replace HZ9 := Aside0.mk (Kd.S_below HZ9.out hb); replace BK1 := Aside0.mk (blk_below BK1.out hb); replace BK2 := Aside0.mk (blk_below BK2.out hb); replace BK3 := Aside0.mk (blk_below BK3.out hb); replace HB := Aside0.mk (below_step HB.out hb); replace HL := Aside0.mk (And.intro HL.out (below_size hb)); clear hb; clear hcz23 hfz24 hcz25 hfz26 hcz27 hfz28; have hcz30 : w29.cell? ⟨gb1, 0, none⟩ = some (.slice A0_0 l0_0.length c0_0) := (blk_cell BK1.out 0).trans rfl; have hfz31 := blk_frozen BK1.out 0; have hcz32 : w29.cell? ⟨gb2, 0, none⟩ = some (.slice none 0 0) := (blk_cell BK2.out 0).trans rfl; have hfz33 := blk_frozen BK2.out 0; have hcz34 : w29.cell? ⟨gb3, 0, none⟩ = some (.slice A9 t189.length c9) := (blk_cell BK3.out 0).trans rfl; have hfz35 := blk_frozen BK3.out 0) | (go_at_call 66; (with_reducible show Calls _ _ _ w29 _); (with_reducible refine (spec_l01In.calls a1 0 (wrap64 ((l0_0.length : Int) - 1)) false _  Fa3.out).mono ?_); rintro e w36 ⟨rfl, hd_⟩; have hb := hd_.below; clear hd_; replace HZ9 := Aside0.mk (Kd.S_below HZ9.out hb); replace BK1 := Aside0.mk (blk_below BK1.out hb); replace BK2 := Aside0.mk (blk_below BK2.out hb); replace BK3 := Aside0.mk (blk_below BK3.out hb); replace HB := Aside0.mk (below_step HB.out hb); replace HL := Aside0.mk (And.intro HL.out (below_size hb)); clear hb; clear hcz30 hfz31 hcz32 hfz33 hcz34 hfz35; have hcz37 : w36.cell? ⟨gb1, 0, none⟩ = some (.slice A0_0 l0_0.length c0_0) := (blk_cell BK1.out 0).trans rfl; have hfz38 := blk_frozen BK1.out 0; have hcz39 : w36.cell? ⟨gb2, 0, none⟩ = some (.slice none 0 0) := (blk_cell BK2.out 0).trans rfl; have hfz40 := blk_frozen BK2.out 0; have hcz41 : w36.cell? ⟨gb3, 0, none⟩ = some (.slice A9 t189.length c9) := (blk_cell BK3.out 0).trans rfl; have hfz42 := blk_frozen BK3.out 0) | ((with_reducible refine gate_store (t := 40) (p := 4) rfl ?_); refine store_event (t := 40) (p := 4) (v := ?vo44_) (w1 := (w36.setCell ⟨gb2, 0, none⟩ (.slice A9 t189.length c9))) ?hg ?ho ?hn ?hr ?_; (case ho => rfl); (case hg => rfl); (case hn => rfl); (case hr => first | (go_simp; done) | (go_simp; rfl)); intro w43 hw; have hk : Kept w36 w43 (fun k_ => k_ = gb2) := (by rw [hw]; exact (Kept.setCell (Kept.refl w36 (fun k_ => k_ = gb2)) (p := ⟨gb2, 0, none⟩) (.inl rfl) (.slice A9 t189.length c9))); have g0_ := GBK2.out; replace HZ9 := Aside0.mk (Kd.S_kept HZ9.out hk (fun k_ (hk_ : (w4.heap.size ≤ k_ ∧ k_ < w9.heap.size)) (hs_ : k_ = gb2) => by have q_ := HL.out; omega)); replace BK1 := Aside0.mk (blk_kept BK1.out hk (fun hs_ => by have q_ := HL.out; have g_ := GBK1.out; have hs2_ : gb1 = gb2 := hs_; omega)); replace BK3 := Aside0.mk (blk_kept BK3.out hk (fun hs_ => by have q_ := HL.out; have g_ := GBK3.out; have hs2_ : gb3 = gb2 := hs_; omega)); clear g0_; replace BK2 := Aside0.mk (show w43.heap[gb2]? = some (.cells #[.slice A9 t189.length c9] 40 (0, 0)) from (by rw [hw]; exact (blk_put (cs := #[.slice none 0 0]) (cs' := #[.slice A9 t189.length c9]) BK2.out 0 _ rfl))); replace HB := Aside0.mk (show Below w.heap.size w w43 from (by rw [hw]; exact (below_set HB.out GW2.out))); replace HL := Aside0.mk (And.intro HL.out hk.1); clear hk hw; clear hcz37 hfz38 hcz39 hfz40 hcz41 hfz42; have hcz45 : w43.cell? ⟨gb1, 0, none⟩ = some (.slice A0_0 l0_0.length c0_0) := (blk_cell BK1.out 0).trans rfl; have hfz46 := blk_frozen BK1.out 0; have hcz47 : w43.cell? ⟨gb2, 0, none⟩ = some (.slice A9 t189.length c9) := (blk_cell BK2.out 0).trans rfl; have hfz48 := blk_frozen BK2.out 0; have hcz49 : w43.cell? ⟨gb3, 0, none⟩ = some (.slice A9 t189.length c9) := (blk_cell BK3.out 0).trans rfl; have hfz50 := blk_frozen BK3.out 0))
      refine bodyPost_ret (results_ct rfl _ _ gb2 40 #[.slice A9 t189.length c9] (0, 0) _ rfl BK2.out Try.underlying40 rfl (by kernel_rfl)) rfl ?_
      exact ⟨_, rfl, Kd.S_mono HZ9.out (fun _ _ => trivial), HB.out⟩
  · replace c5 := Bool.eq_false_iff.mpr c5
    subst c5
    have H1 : (some (t189, false)) = some (r1, r2) := by rw [if_neg (show ¬ (false = true) by decide)] at H; exact H
    clear H
    have H := H1
    clear H1
    simp only [Option.some.injEq, Prod.mk.injEq] at H
    obtain ⟨rfl, rfl⟩ := H
    have Fa1 := A3
    have Fa2 := A4
    clear A3 A4
    have HL := Aside0.mk (Nat.le_refl w.heap.size)
    go_enter Try.func97, Try.ntmps97
    go_wp2_with (first | ((with_reducible refine gate_dst (N := 2) rfl ?_); refine box_event ?hg (N := 2) ?hd (cs := #[.slice A0_0 l0_0.length c0_0]) (t := 40) ?hr ?_; (case hd => rfl); (case hg => rfl); (case hr => first | (go_simp; done) | (go_simp; rfl)); intro gb1 hg w1 hbox hb; have GBK1 := Aside0.mk (show gb1 = w.heap.size ∧ gb1 < w1.heap.size from ⟨hg, blk_lt hbox⟩); have GW1 := Aside0.mk (show w.heap.size ≤ gb1 by have q_ := below_size HB.out; rw [hg]; exact q_); have BK1 := Aside0.mk hbox; replace HB := Aside0.mk (below_step HB.out hb); replace HL := Aside0.mk (And.intro HL.out (below_size hb)); clear hb hbox hg; have hcz2 : w1.cell? ⟨gb1, 0, none⟩ = some (.slice A0_0 l0_0.length c0_0) := (blk_cell BK1.out 0).trans rfl; have hfz3 := blk_frozen BK1.out 0) | ((with_reducible refine gate_dst (N := 4) rfl ?_); refine box_event ?hg (N := 4) ?hd (cs := #[.slice none 0 0]) (t := 40) ?hr ?_; (case hd => rfl); (case hg => rfl); (case hr => first | (go_simp; done) | (go_simp; rfl)); intro gb2 hg w4 hbox hb; replace BK1 := Aside0.mk (blk_below BK1.out hb); have GBK2 := Aside0.mk (show gb2 = w1.heap.size ∧ gb2 < w4.heap.size from ⟨hg, blk_lt hbox⟩); have GW2 := Aside0.mk (show w.heap.size ≤ gb2 by have q_ := below_size HB.out; rw [hg]; exact q_); have BK2 := Aside0.mk hbox; replace HB := Aside0.mk (below_step HB.out hb); replace HL := Aside0.mk (And.intro HL.out (below_size hb)); clear hb hbox hg; clear hcz2 hfz3; have hcz5 : w4.cell? ⟨gb1, 0, none⟩ = some (.slice A0_0 l0_0.length c0_0) := (blk_cell BK1.out 0).trans rfl; have hfz6 := blk_frozen BK1.out 0; have hcz7 : w4.cell? ⟨gb2, 0, none⟩ = some (.slice none 0 0) := (blk_cell BK2.out 0).trans rfl; have hfz8 := blk_frozen BK2.out 0) | ((with_reducible refine gate_callee (f := 70) rfl ?_); refine goesL_ (some 8) rfl rfl Try.func70 (by kernel_rfl) rfl #[.agg #[.slice A0_0 l0_0.length c0_0]] rfl (by (try simp only [List.map_toArray, List.map_cons, List.map_nil]); first | done | rfl | (simp only [List.length_drop, List.length_take]; rfl)) ?_; (with_reducible refine (spec_l05Copy.calls k _ _ l0_0 t189 _ ?side1 ?side2 Fa1.out).mono ?_); (case side1 => exact Kd.C_below HR0_0.out HB.out); (case side2 => exact HC0_0.out); rintro e w9 ⟨v9, rfl, ho0, hb⟩; refine ⟨_, rfl, ?_⟩; have HZ9 := Aside0.mk (Kd.S_lower (Kd.S_mono (ok' := fun k_ => (w4.heap.size ≤ k_ ∧ k_ < w9.heap.size)) (Kd.S_bound ho0) (fun k_ hk_ => ⟨hk_.2.1, hk_.2.2.1⟩)) (below_size HB.out)); clear ho0; replace BK1 := Aside0.mk (blk_below BK1.out hb); replace BK2 := Aside0.mk (blk_below BK2.out hb); replace HB := Aside0.mk (below_step HB.out hb); replace HL := Aside0.mk (And.intro HL.out (below_size hb)); clear hb; obtain ⟨A9, c9, e9⟩ := Kd.S_slice HZ9.out; subst e9; clear hcz5 hfz6 hcz7 hfz8; have hcz10 : w9.cell? ⟨gb1, 0, none⟩ = some (.slice A0_0 l0_0.length c0_0) := (blk_cell BK1.out 0).trans rfl; have hfz11 := blk_frozen BK1.out 0; have hcz12 : w9.cell? ⟨gb2, 0, none⟩ = some (.slice none 0 0) := (blk_cell BK2.out 0).trans rfl; have hfz13 := blk_frozen BK2.out 0) | ((with_reducible refine gate_dst (N := 6) rfl ?_); refine box_event ?hg (N := 6) ?hd (cs := #[.slice none 0 0]) (t := 40) ?hr ?_; (case hd => rfl); (case hg => rfl); (case hr => first | (go_simp; done) | (go_simp; rfl)); intro gb3 hg w14 hbox hb; replace HZ9 := Aside0.mk (Kd.S_below HZ9.out hb); replace BK1 := Aside0.mk (blk_below BK1.out hb); replace BK2 := Aside0.mk (blk_below BK2.out hb); have GBK3 := Aside0.mk (show gb3 = w9.heap.size ∧ gb3 < w14.heap.size from ⟨hg, blk_lt hbox⟩); have GW3 := Aside0.mk (show w.heap.size ≤ gb3 by have q_ := below_size HB.out; rw [hg]; exact q_); have BK3 := Aside0.mk hbox; replace HB := Aside0.mk (below_step HB.out hb); replace HL := Aside0.mk (And.intro HL.out (below_size hb)); clear hb hbox hg; clear hcz10 hfz11 hcz12 hfz13; have hcz15 : w14.cell? ⟨gb1, 0, none⟩ = some (.slice A0_0 l0_0.length c0_0) := (blk_cell BK1.out 0).trans rfl; have hfz16 := blk_frozen BK1.out 0; have hcz17 : w14.cell? ⟨gb2, 0, none⟩ = some (.slice none 0 0) := (blk_cell BK2.out 0).trans rfl; have hfz18 := blk_frozen BK2.out 0; have hcz19 : w14.cell? ⟨gb3, 0, none⟩ = some (.slice none 0 0) := (blk_cell BK3.out 0).trans rfl; have hfz20 := blk_frozen BK3.out 0) | ((with_reducible refine gate_store (t := 40) (p := 6) rfl ?_); refine store_event (t := 40) (p := 6) (v := ?vo22_) (w1 := (w14.setCell ⟨gb3, 0, none⟩ (.slice A9 t189.length c9))) ?hg ?ho ?hn ?hr ?_; (case ho => rfl); (case hg => rfl); (case hn => rfl); (case hr => first | (go_simp; done) | (go_simp; rfl)); intro w21 hw; have hk : Kept w14 w21 (fun k_ => k_ = gb3) := (by rw [hw]; exact (Kept.setCell (Kept.refl w14 (fun k_ => k_ = gb3)) (p := ⟨gb3, 0, none⟩) (.inl rfl) (.slice A9 t189.length c9))); have g0_ := GBK3.out; replace HZ9 := Aside0.mk (Kd.S_kept HZ9.out hk (fun k_ (hk_ : (w4.heap.size ≤ k_ ∧ k_ < w9.heap.size)) (hs_ : k_ = gb3) => by have q_ := HL.out; omega)); replace BK1 := Aside0.mk (blk_kept BK1.out hk (fun hs_ => by have q_ := HL.out; have g_ := GBK1.out; have hs2_ : gb1 = gb3 := hs_; omega)); replace BK2 := Aside0.mk (blk_kept BK2.out hk (fun hs_ => by have q_ := HL.out; have g_ := GBK2.out; have hs2_ : gb2 = gb3 := hs_; omega)); clear g0_; replace BK3 := Aside0.mk (show w21.heap[gb3]? = some (.cells #[.slice A9 t189.length c9] 40 (0, 0)) from (by rw [hw]; exact (blk_put (cs := #[.slice none 0 0]) (cs' := #[.slice A9 t189.length c9]) BK3.out 0 _ rfl))); replace HB := Aside0.mk (show Below w.heap.size w w21 from (by rw [hw]; exact (below_set HB.out GW3.out))); replace HL := Aside0.mk (And.intro HL.out hk.1); clear hk hw; clear hcz15 hfz16 hcz17 hfz18 hcz19 hfz20; have hcz23 : w21.cell? ⟨gb1, 0, none⟩ = some (.slice A0_0 l0_0.length c0_0) := (blk_cell BK1.out 0).trans rfl; have hfz24 := blk_frozen BK1.out 0; have hcz25 : w21.cell? ⟨gb2, 0, none⟩ = some (.slice none 0 0) := (blk_cell BK2.out 0).trans rfl; have hfz26 := blk_frozen BK2.out 0; have hcz27 : w21.cell? ⟨gb3, 0, none⟩ = some (.slice A9 t189.length c9) := (blk_cell BK3.out 0).trans rfl; have hfz28 := blk_frozen BK3.out 0) | ((with_reducible refine gate_callee (f := 71) rfl ?_); refine goesL_ (some 10) rfl rfl Try.func71 (by kernel_rfl) rfl #[.agg #[.slice A0_0 l0_0.length c0_0]] rfl (by (try simp only [List.map_toArray, List.map_cons, List.map_nil]); first | done | rfl | (simp only [List.length_drop, List.length_take]; rfl)) ?_; (with_reducible refine (spec_FlashOk.calls k _ _ l0_0 false _ ?side1 ?side2 Fa2.out).mono ?_); (case side1 => exact Kd.C_below HR0_0.out HB.out); (case side2 => exact HC0_0.out); rintro e w29 ⟨rfl, hb⟩; refine ⟨_, rfl, ?_⟩; replace HZ9 := Aside0.mk (Kd.S_below HZ9.out hb); replace BK1 := Aside0.mk (blk_below BK1.out hb); replace BK2 := Aside0.mk (blk_below BK2.out hb); replace BK3 := Aside0.mk (blk_below BK3.out hb); replace HB := Aside0.mk (below_step HB.out hb); replace HL := Aside0.mk (And.intro HL.out (below_size hb)); clear hb; clear hcz23 hfz24 hcz25 hfz26 hcz27 hfz28; have hcz30 : w29.cell? ⟨gb1, 0, none⟩ = some (.slice A0_0 l0_0.length c0_0) := (blk_cell BK1.out 0).trans rfl; have hfz31 := blk_frozen BK1.out 0; have hcz32 : w29.cell? ⟨gb2, 0, none⟩ = some (.slice none 0 0) := (blk_cell BK2.out 0).trans rfl; have hfz33 := blk_frozen BK2.out 0; have hcz34 : w29.cell? ⟨gb3, 0, none⟩ = some (.slice A9 t189.length c9) := (blk_cell BK3.out 0).trans rfl; have hfz35 := blk_frozen BK3.out 0) | ((with_reducible refine gate_store (t := 40) (p := 4) rfl ?_); refine store_event (t := 40) (p := 4) (v := ?vo37_) (w1 := (w29.setCell ⟨gb2, 0, none⟩ (.slice A9 t189.length c9))) ?hg ?ho ?hn ?hr ?_; (case ho => rfl); (case hg => rfl); (case hn => rfl); (case hr => first | (go_simp; done) | (go_simp; rfl)); intro w36 hw; have hk : Kept w29 w36 (fun k_ => k_ = gb2) := (by rw [hw]; exact (Kept.setCell (Kept.refl w29 (fun k_ => k_ = gb2)) (p := ⟨gb2, 0, none⟩) (.inl rfl) (.slice A9 t189.length c9))); have g0_ := GBK2.out; replace HZ9 := Aside0.mk (Kd.S_kept HZ9.out hk (fun k_ (hk_ : (w4.heap.size ≤ k_ ∧ k_ < w9.heap.size)) (hs_ : k_ = gb2) => by have q_ := HL.out; omega)); replace BK1 := Aside0.mk (blk_kept BK1.out hk (fun hs_ => by have q_ := HL.out; have g_ := GBK1.out; have hs2_ : gb1 = gb2 := hs_; omega)); replace BK3 := Aside0.mk (blk_kept BK3.out hk (fun hs_ => by have q_ := HL.out; have g_ := GBK3.out; have hs2_ : gb3 = gb2 := hs_; omega)); clear g0_; replace BK2 := Aside0.mk (show w36.heap[gb2]? = some (.cells #[.slice A9 t189.length c9] 40 (0, 0)) from (by rw [hw]; exact (blk_put (cs := #[.slice none 0 0]) (cs' := #[.slice A9 t189.length c9]) BK2.out 0 _ rfl))); replace HB := Aside0.mk (show Below w.heap.size w w36 from (by rw [hw]; exact (below_set HB.out GW2.out))); replace HL := Aside0.mk (And.intro HL.out hk.1); clear hk hw; clear hcz30 hfz31 hcz32 hfz33 hcz34 hfz35; have hcz38 : w36.cell? ⟨gb1, 0, none⟩ = some (.slice A0_0 l0_0.length c0_0) := (blk_cell BK1.out 0).trans rfl; have hfz39 := blk_frozen BK1.out 0; have hcz40 : w36.cell? ⟨gb2, 0, none⟩ = some (.slice A9 t189.length c9) := (blk_cell BK2.out 0).trans rfl; have hfz41 := blk_frozen BK2.out 0; have hcz42 : w36.cell? ⟨gb3, 0, none⟩ = some (.slice A9 t189.length c9) := (blk_cell BK3.out 0).trans rfl; have hfz43 := blk_frozen BK3.out 0))
    refine bodyPost_ret (results_ct rfl _ _ gb2 40 #[.slice A9 t189.length c9] (0, 0) _ rfl BK2.out Try.underlying40 rfl (by kernel_rfl)) rfl ?_
    exact ⟨_, rfl, Kd.S_mono HZ9.out (fun _ _ => trivial), HB.out⟩
end Go.Proofs.Ytcpgpchdplpfiaa.PF
