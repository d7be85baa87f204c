/- FnExactTxPages: functions of the translation as Lean functions with what their calls come to, plain lemmas on them, and, at the end, the row. Parts of one proof, merged by a program of this session; each part's own sentence stands at its head. -/
import Derived.ChangeArms
import Derived.DataReads
import Derived.Test.YtdolplcbokioaaaMFnExactTxPagesb
/- Functions of the translation as plain Lean functions, and for each that its call comes to just what its Lean function answers; its conditions stand in each theorem. Written by a program of this session. -/
namespace Go.Proofs.Ytdolplcbokioaaa.PB
open Go.RowKit Go.Proofs.YtdolplcbokioaaaW.PrintWords Go.Proofs.YtdolplcbokioaaaW.PrintLast Go.Proofs.YtdolplcbokioaaaW.PrintMore
attribute [local go_sem] max2_int min2_int max_two min_two max_three min_three max_four min_four   -- for this text's walks alone
set_option linter.unusedVariables false
set_option linter.unusedSimpArgs false

/-! ### laws_markRecS: function 61 -/
def laws_markRecS.l0 : Nat → List (S90) → Int → Int → Option (Int × (List (S90)))
  | 0, _, _, _ => none
  | k + 1, x0, x1, x5 => if x5 < (x0.length : Int) then (if 0 ≤ x5 then ((some (x0.set (x5 : Int).toNat (⟨x1, (rd_T90 x0 x5).f1, (rd_T90 x0 x5).f2, (rd_T90 x0 x5).f3⟩ : S90) : List (S90))).bind fun y1273 => ((some (y1273.set (x5 : Int).toNat (⟨(rd_T90 y1273 x5).f0, wrap64 (x1 + 1), (rd_T90 y1273 x5).f2, (rd_T90 y1273 x5).f3⟩ : S90) : List (S90))).bind fun y1274 => ((some (y1274.set (x5 : Int).toNat (⟨(rd_T90 y1274 x5).f0, (rd_T90 y1274 x5).f1, wrap64 ((wrap64 (x1 + 1)) + 1), (rd_T90 y1274 x5).f3⟩ : S90) : List (S90))).bind fun y1275 => (laws_markRecS.l0 k (y1275.set (x5 : Int).toNat (⟨(rd_T90 y1275 x5).f0, (rd_T90 y1275 x5).f1, (rd_T90 y1275 x5).f2, wrap64 ((wrap64 ((wrap64 (x1 + 1)) + 1)) + 1)⟩ : S90)) (wrap64 ((wrap64 ((wrap64 ((wrap64 (x1 + 1)) + 1)) + 1)) + 1)) (wrap64 (x5 + 1)))))) else (none)) else (some (x1, x0))
def laws_markRecS.f (k : Nat) (l0 : List (S90)) (a1 : Int) : Option (Int × (List (S90))) := laws_markRecS.l0 k l0 a1 0
theorem laws_markRecS.mono_l : ∀ k, (∀ y0 y1 y2, LeO (laws_markRecS.l0 k y0 y1 y2) (laws_markRecS.l0 (k + 1) y0 y1 y2))
  | 0 => fun _ _ _ r h => by simp [laws_markRecS.l0] at h
  | k + 1 => by
    have ih0 := laws_markRecS.mono_l k
    · intro y0 y1 y2
      unfold laws_markRecS.l0
      repeat' first
      | (with_reducible exact ih0 _ _ _)
      | (with_reducible exact LeO.refl _)
      | (with_reducible exact LeO.none _)
      | (with_reducible refine LeO.ite ?_ ?_)
      | (with_reducible refine LeO.bind ?_ (fun _ => ?_))
      | exact ih0 _ _ _
      | exact LeO.none _
      | refine LeO.ite ?_ ?_
      | refine LeO.bind ?_ (fun _ => ?_)
theorem laws_markRecS.mono : ∀ a0 a1 k, LeO (laws_markRecS.f k a0 a1) (laws_markRecS.f (k + 1) a0 a1) := by
  intro a0 a1 k
  have ih0 := laws_markRecS.mono_l k
  unfold laws_markRecS.f
  repeat' first
      | (with_reducible exact ih0 _ _ _)
      | (with_reducible exact LeO.refl _)
      | (with_reducible exact LeO.none _)
      | (with_reducible refine LeO.ite ?_ ?_)
      | (with_reducible refine LeO.bind ?_ (fun _ => ?_))
      | exact ih0 _ _ _
      | exact LeO.none _
      | refine LeO.ite ?_ ?_
      | refine LeO.bind ?_ (fun _ => ?_)
set_option maxHeartbeats 8000000 in
set_option maxRecDepth 100000 in
theorem laws_markRecS.calls (k : Nat) (P0_ : Nat → Prop) (u9000_ : Value) (l0 : List (S90)) (a1 : Int) (r1 : Int) (r2 : List (S90)) (w0 w : World) (hB : Below w0.heap.size w0 w) (ho0 : Kd.R k90 90 w w0.heap.size P0_ u9000_ l0) (h : laws_markRecS.f k l0 a1 = some (r1, r2)) :
    Calls Try.prog 61 #[u9000_, .int .i64 a1] w fun e w' => e = .returned (.int .i64 r1) ∧ Kd.R k90 90 w' w0.heap.size (fun k_ => (P0_ k_ ∨ w.heap.size ≤ k_)) u9000_ r2 ∧ Below w0.heap.size w0 w' ∧ Kept w w' (fun k_ => P0_ k_) := by
  have HO0 := Aside0.mk (show Kd.R k90 90 w w0.heap.size (fun k_ => (P0_ k_ ∨ w.heap.size ≤ k_)) u9000_ l0 from Kd.R_mono ho0 (fun k_ hk => (.inl hk)))
  have HK := Aside0.mk (Kept.refl w (fun k_ => P0_ k_))
  have HW0 := Aside0.mk hB.size
  have HB := Aside0.mk hB
  clear hB
  have H : (laws_markRecS.l0 k l0 a1 0) = some (r1, r2) := h
  clear h
  have H' := Aside0.mk H
  clear H
  go_enter Try.func61, Try.ntmps61
  go_wp2
  go_loopg [1, 5] k (fun kq v1 v5 w' => ∃ (x0_1 : List (S90)) (x1_1 : Int) (x5_1 : Int), v1 = .int .i64 x1_1 ∧ v5 = .int .i64 x5_1 ∧ Aside0 (laws_markRecS.l0 kq x0_1 x1_1 x5_1 = some (r1, r2)) ∧ Aside0 (kq ≤ k) ∧ Aside0 (Kd.R k90 90 w' w0.heap.size (fun k_ => (P0_ k_ ∨ w.heap.size ≤ k_)) u9000_ x0_1) ∧ Aside0 (Kept w w' (fun k_ => P0_ k_)) ∧ Aside0 (Below w0.heap.size w0 w'))
  case atStart => exact ⟨(l0), (a1), (0), (by first | rfl | (simp; done) | (simp [*]; done)), (by first | rfl | (simp; done) | (simp [*]; done)), H', ⟨Nat.le_refl _⟩, ⟨by (with_reducible repeat (first | apply Kd.R_alloc | apply Kd.R_drewN | apply Kd.R_drew)); exact HO0.out⟩, ⟨by repeat (first | (with_reducible first | exact HK.out | apply Kept.alloc | apply Kept.drewN | apply Kept.drew) | exact HK.out)⟩, ⟨by repeat (first | (with_reducible first | exact HB.out | apply below_alloc | apply pw_below_drewN | apply below_drew1) | exact HB.out)⟩⟩
  case round =>
    clear H'
    try clear p2
    obtain ⟨x0_1, x1_1, x5_1, rfl, rfl, HA, HK1, HO_0, HK, HB⟩ := hrel
    cases gk with
    | zero => exact absurd HA.out (by simp [laws_markRecS.l0])
    | succ k1 =>
      have H := HA.out
      clear HA
      simp only [laws_markRecS.l0] at H
      by_cases c3 : x5_1 < (x0_1.length : Int)
      · rw [if_pos c3] at H
        have c3b0 : decide (x5_1 < (x0_1.length : Int)) = true := decide_eq_true c3
        clear c3
        by_cases c4 : 0 ≤ x5_1
        · rw [if_pos c4] at H
          have c4b0 : decide (0 ≤ x5_1) = true := decide_eq_true c4
          clear c4
          obtain ⟨y1273, hy1273⟩ : ∃ y_ : List (S90), y_ = (x0_1.set (x5_1 : Int).toNat (⟨x1_1, (rd_T90 x0_1 x5_1).f1, (rd_T90 x0_1 x5_1).f2, (rd_T90 x0_1 x5_1).f3⟩ : S90)) := ⟨_, rfl⟩
          replace H : ((some (y1273.set (x5_1 : Int).toNat (⟨(rd_T90 y1273 x5_1).f0, wrap64 (x1_1 + 1), (rd_T90 y1273 x5_1).f2, (rd_T90 y1273 x5_1).f3⟩ : S90) : List (S90))).bind fun y1274 => ((some (y1274.set (x5_1 : Int).toNat (⟨(rd_T90 y1274 x5_1).f0, (rd_T90 y1274 x5_1).f1, wrap64 ((wrap64 (x1_1 + 1)) + 1), (rd_T90 y1274 x5_1).f3⟩ : S90) : List (S90))).bind fun y1275 => (laws_markRecS.l0 k1 (y1275.set (x5_1 : Int).toNat (⟨(rd_T90 y1275 x5_1).f0, (rd_T90 y1275 x5_1).f1, (rd_T90 y1275 x5_1).f2, wrap64 ((wrap64 ((wrap64 (x1_1 + 1)) + 1)) + 1)⟩ : S90)) (wrap64 ((wrap64 ((wrap64 ((wrap64 (x1_1 + 1)) + 1)) + 1)) + 1)) (wrap64 (x5_1 + 1))))) = some (r1, r2) := by first | (rw [hy1273]; with_reducible exact H) | (have H2_ := (Option.bind_some _ _).symm.trans H; rw [hy1273]; with_reducible exact H2_) | (have H2_ := (Option.bind_some _ _).symm.trans H; with_reducible exact H2_) | with_reducible exact H | (rw [hy1273]; exact H) | exact H
          have Ny1273 := Aside0.mk hy1273
          clear hy1273
          obtain ⟨y1274, hy1274⟩ : ∃ y_ : List (S90), y_ = (y1273.set (x5_1 : Int).toNat (⟨(rd_T90 y1273 x5_1).f0, wrap64 (x1_1 + 1), (rd_T90 y1273 x5_1).f2, (rd_T90 y1273 x5_1).f3⟩ : S90)) := ⟨_, rfl⟩
          replace H : ((some (y1274.set (x5_1 : Int).toNat (⟨(rd_T90 y1274 x5_1).f0, (rd_T90 y1274 x5_1).f1, wrap64 ((wrap64 (x1_1 + 1)) + 1), (rd_T90 y1274 x5_1).f3⟩ : S90) : List (S90))).bind fun y1275 => (laws_markRecS.l0 k1 (y1275.set (x5_1 : Int).toNat (⟨(rd_T90 y1275 x5_1).f0, (rd_T90 y1275 x5_1).f1, (rd_T90 y1275 x5_1).f2, wrap64 ((wrap64 ((wrap64 (x1_1 + 1)) + 1)) + 1)⟩ : S90)) (wrap64 ((wrap64 ((wrap64 ((wrap64 (x1_1 + 1)) + 1)) + 1)) + 1)) (wrap64 (x5_1 + 1)))) = some (r1, r2) := by first | (rw [hy1274]; with_reducible exact H) | (have H2_ := (Option.bind_some _ _).symm.trans H; rw [hy1274]; with_reducible exact H2_) | (have H2_ := (Option.bind_some _ _).symm.trans H; with_reducible exact H2_) | with_reducible exact H | (rw [hy1274]; exact H) | exact H
          have Ny1274 := Aside0.mk hy1274
          clear hy1274
          obtain ⟨y1275, hy1275⟩ : ∃ y_ : List (S90), y_ = (y1274.set (x5_1 : Int).toNat (⟨(rd_T90 y1274 x5_1).f0, (rd_T90 y1274 x5_1).f1, wrap64 ((wrap64 (x1_1 + 1)) + 1), (rd_T90 y1274 x5_1).f3⟩ : S90)) := ⟨_, rfl⟩
          replace H : (laws_markRecS.l0 k1 (y1275.set (x5_1 : Int).toNat (⟨(rd_T90 y1275 x5_1).f0, (rd_T90 y1275 x5_1).f1, (rd_T90 y1275 x5_1).f2, wrap64 ((wrap64 ((wrap64 (x1_1 + 1)) + 1)) + 1)⟩ : S90)) (wrap64 ((wrap64 ((wrap64 ((wrap64 (x1_1 + 1)) + 1)) + 1)) + 1)) (wrap64 (x5_1 + 1))) = some (r1, r2) := by first | (rw [hy1275]; with_reducible exact H) | (have H2_ := (Option.bind_some _ _).symm.trans H; rw [hy1275]; with_reducible exact H2_) | (have H2_ := (Option.bind_some _ _).symm.trans H; with_reducible exact H2_) | with_reducible exact H | (rw [hy1275]; exact H) | exact H
          have Ny1275 := Aside0.mk hy1275
          clear hy1275
          obtain ⟨y1276, hy1276⟩ : ∃ y_ : List (S90), y_ = (y1275.set (x5_1 : Int).toNat (⟨(rd_T90 y1275 x5_1).f0, (rd_T90 y1275 x5_1).f1, (rd_T90 y1275 x5_1).f2, wrap64 ((wrap64 ((wrap64 (x1_1 + 1)) + 1)) + 1)⟩ : S90)) := ⟨_, rfl⟩
          replace H : (laws_markRecS.l0 k1 y1276 (wrap64 ((wrap64 ((wrap64 ((wrap64 (x1_1 + 1)) + 1)) + 1)) + 1)) (wrap64 (x5_1 + 1))) = some (r1, r2) := by first | (rw [hy1276]; with_reducible exact H) | (have H2_ := (Option.bind_some _ _).symm.trans H; rw [hy1276]; with_reducible exact H2_) | (have H2_ := (Option.bind_some _ _).symm.trans H; with_reducible exact H2_) | with_reducible exact H | (rw [hy1276]; exact H) | exact H
          have Ny1276 := Aside0.mk hy1276
          clear hy1276
          have H' := Aside0.mk H
          clear H
          obtain ⟨Ao9, co9, eo9⟩ := Kd.R_slice HO_0.out
          subst eo9
          have p5 : 0 ≤ (x5_1 : Int) := of_decide_eq_true (by first | (with_reducible assumption) | assumption)
          have q5 : (x5_1 : Int) < ((x0_1.length : Int) : Int) := of_decide_eq_true (by first | (with_reducible assumption) | assumption)
          obtain ⟨go5, co5, eo5, gb5, gl5, cl5, HG5⟩ := Kd.R_form HO_0.out (by omega)
          (first | cases eo5 | (injection eo5 with ea_ en_ ec_; (first | subst ea_ | (injection ea_ with ea_; subst ea_)); subst ec_; clear en_))
          have GB5 := Aside0.mk gb5
          have GG5 := Aside0.mk HG5
          clear gb5 gl5 HG5
          have HMgo5 := Aside0.mk (show (P0_ go5 ∨ w.heap.size ≤ go5) from (HO_0.out.1 _ rfl))
          obtain ⟨ce5, hcl5, hM5, hcc5, hfr5⟩ := Kd.R_elem HO_0.out z90 (x5_1 : Int) p5 q5
          obtain rfl := k90_openM hM5
          have hx5_0 : wr.cell? ⟨go5, (x5_1 : Int).toNat * 4, none⟩ = some (.int .i64 ((rd_T90 x0_1 x5_1).f0)) := hcc5 0 _ rfl
          have hx5_1 : wr.cell? ⟨go5, (x5_1 : Int).toNat * 4 + 1, none⟩ = some (.int .i64 ((rd_T90 x0_1 x5_1).f1)) := hcc5 1 _ rfl
          have hx5_2 : wr.cell? ⟨go5, (x5_1 : Int).toNat * 4 + 2, none⟩ = some (.int .i64 ((rd_T90 x0_1 x5_1).f2)) := hcc5 2 _ rfl
          have hx5_3 : wr.cell? ⟨go5, (x5_1 : Int).toNat * 4 + 3, none⟩ = some (.int .i64 ((rd_T90 x0_1 x5_1).f3)) := hcc5 3 _ rfl
          have hf5_0 : wr.frozen? ⟨go5, (x5_1 : Int).toNat * 4, none⟩ = false := hfr5 0
          have hf5_1 : wr.frozen? ⟨go5, (x5_1 : Int).toNat * 4 + 1, none⟩ = false := hfr5 1
          have hf5_2 : wr.frozen? ⟨go5, (x5_1 : Int).toNat * 4 + 2, none⟩ = false := hfr5 2
          have hf5_3 : wr.frozen? ⟨go5, (x5_1 : Int).toNat * 4 + 3, none⟩ = false := hfr5 3
          clear hcl5 hcc5 hfr5 hM5
          replace p5 := eq_true p5
          replace q5 := eq_true q5
          have HX10 := Aside0.mk (show Kd.R k90 90 wr w0.heap.size (fun k_ => (P0_ k_ ∨ w.heap.size ≤ k_)) (.slice (some ⟨go5, 0, none⟩) x0_1.length co9) x0_1 from (by (with_reducible repeat (first | apply Kd.R_alloc | apply Kd.R_drewN | apply Kd.R_drew)); exact HO_0.out))
          obtain ⟨ce10, hcl10, hM10, hcc10, hfr10⟩ := Kd.R_elem HX10.out z90 (x5_1 : Int) (of_decide_eq_true (by first | (with_reducible assumption) | assumption)) (by have h_ : (x5_1 : Int) < ((x0_1.length : Int) : Int) := of_decide_eq_true (by first | (with_reducible assumption) | assumption); first | exact h_ | (have e_ := (Kd.R_reads' HO_0.out).1; omega) | simpa using h_)
          obtain rfl := k90_openM hM10
          have HP10 := Kd.R_seg HX10.out (x5_1 : Int) (of_decide_eq_true (by first | (with_reducible assumption) | assumption)) (by have h_ : (x5_1 : Int) < ((x0_1.length : Int) : Int) := of_decide_eq_true (by first | (with_reducible assumption) | assumption); first | exact h_ | (have e_ := (Kd.R_reads' HO_0.out).1; omega) | simpa using h_) (seg := [.int .i64 x1_1]) (j := 0) hcl10 hcc10 (show 1 ≤ 4 from by decide) (x' := (⟨x1_1, (rd_T90 x0_1 x5_1).f1, (rd_T90 x0_1 x5_1).f2, (rd_T90 x0_1 x5_1).f3⟩ : S90)) (k90_mkM _ _ _ (⟨x1_1, (rd_T90 x0_1 x5_1).f1, (rd_T90 x0_1 x5_1).f2, (rd_T90 x0_1 x5_1).f3⟩ : S90) ) (fun _ hk => hk)
          have hx10_0 := hcc10 0 _ rfl
          (try simp only [show (k90).sz = 4 from rfl, Nat.mul_one, Nat.add_zero] at hx10_0)
          have hf10_0 := hfr10 0
          (try simp only [show (k90).sz = 4 from rfl, Nat.mul_one, Nat.add_zero] at hf10_0)
          clear hcl10 hcc10 hfr10 hM10
          go_wp2_with (first | ((with_reducible refine gate_store (t := 3) (p := 16) rfl ?_); refine store_event (t := 3) (p := 16) (v := ?vo_w11) (w1 := (wr.setCell ⟨go5, (x5_1 : Int).toNat * 4, none⟩ (.int .i64 x1_1))) ?hg ?ho ?hn ?hr ?_; (case ho => rfl); (case hg => rfl); (case hn => rfl); (case hr => first | (go_simp; done) | (go_simp; rfl)); intro w11 hw; have hg : wr.grownBy w11 (some go5) := (by rw [hw]; exact HP10.2); have hp_ : Kd.R k90 90 w11 w0.heap.size (fun k_ => (P0_ k_ ∨ w.heap.size ≤ k_)) (.slice (some ⟨go5, 0, none⟩) x0_1.length co9) y1273 := (by rw [hw, Ny1273.out]; exact HP10.1); clear HP10; have n0_ := Aside0.mk (hp_); have n1_ := Aside0.mk ((by rw [hw]; exact below_set (HB.out) GB5.out : Below w0.heap.size w0 w11)); have n2_ := Aside0.mk (Kept.of_grown (S := (fun k_ => P0_ k_)) hg (by repeat (first | (with_reducible first | exact HK.out | apply Kept.alloc | apply Kept.drewN | apply Kept.drew) | exact HK.out)) (fun k_ e_ => (HO_0.out.1 k_ e_))); clear HO_0; clear HB; clear HK; have HO_0 := n0_; have HB := n1_; have HK := n2_; clear n0_ n1_ n2_; clear hg hw hp_; have p6 : 0 ≤ (x5_1 : Int) := of_decide_eq_true (by first | (with_reducible assumption) | assumption); have q6 : (x5_1 : Int) < ((x0_1.length : Int) : Int) := of_decide_eq_true (by first | (with_reducible assumption) | assumption); obtain ⟨ce6, hcl6, hM6, hcc6, hfr6⟩ := Kd.R_elem HO_0.out z90 (x5_1 : Int) p6 q6; obtain rfl := k90_openM hM6; have hx6_0 : w11.cell? ⟨go5, (x5_1 : Int).toNat * 4, none⟩ = some (.int .i64 ((rd_T90 y1273 x5_1).f0)) := hcc6 0 _ rfl; have hx6_1 : w11.cell? ⟨go5, (x5_1 : Int).toNat * 4 + 1, none⟩ = some (.int .i64 ((rd_T90 y1273 x5_1).f1)) := hcc6 1 _ rfl; have hx6_2 : w11.cell? ⟨go5, (x5_1 : Int).toNat * 4 + 2, none⟩ = some (.int .i64 ((rd_T90 y1273 x5_1).f2)) := hcc6 2 _ rfl; have hx6_3 : w11.cell? ⟨go5, (x5_1 : Int).toNat * 4 + 3, none⟩ = some (.int .i64 ((rd_T90 y1273 x5_1).f3)) := hcc6 3 _ rfl; have hf6_0 : w11.frozen? ⟨go5, (x5_1 : Int).toNat * 4, none⟩ = false := hfr6 0; have hf6_1 : w11.frozen? ⟨go5, (x5_1 : Int).toNat * 4 + 1, none⟩ = false := hfr6 1; have hf6_2 : w11.frozen? ⟨go5, (x5_1 : Int).toNat * 4 + 2, none⟩ = false := hfr6 2; have hf6_3 : w11.frozen? ⟨go5, (x5_1 : Int).toNat * 4 + 3, none⟩ = false := hfr6 3; clear hcl6 hcc6 hfr6 hM6; replace p6 := eq_true p6; replace q6 := eq_true q6; have HX12 := Aside0.mk (show Kd.R k90 90 w11 w0.heap.size (fun k_ => (P0_ k_ ∨ w.heap.size ≤ k_)) (.slice (some ⟨go5, 0, none⟩) x0_1.length co9) y1273 from (by (with_reducible repeat (first | apply Kd.R_alloc | apply Kd.R_drewN | apply Kd.R_drew)); exact HO_0.out)); obtain ⟨ce12, hcl12, hM12, hcc12, hfr12⟩ := Kd.R_elem HX12.out z90 (x5_1 : Int) (of_decide_eq_true (by first | (with_reducible assumption) | assumption)) (by have h_ : (x5_1 : Int) < ((x0_1.length : Int) : Int) := of_decide_eq_true (by first | (with_reducible assumption) | assumption); first | exact h_ | (have e_ := (Kd.R_reads' HO_0.out).1; omega) | simpa using h_); obtain rfl := k90_openM hM12; have HP12 := Kd.R_seg HX12.out (x5_1 : Int) (of_decide_eq_true (by first | (with_reducible assumption) | assumption)) (by have h_ : (x5_1 : Int) < ((x0_1.length : Int) : Int) := of_decide_eq_true (by first | (with_reducible assumption) | assumption); first | exact h_ | (have e_ := (Kd.R_reads' HO_0.out).1; omega) | simpa using h_) (seg := [.int .i64 (wrap64 (x1_1 + 1))]) (j := 1) hcl12 hcc12 (show 2 ≤ 4 from by decide) (x' := (⟨(rd_T90 y1273 x5_1).f0, wrap64 (x1_1 + 1), (rd_T90 y1273 x5_1).f2, (rd_T90 y1273 x5_1).f3⟩ : S90)) (k90_mkM _ _ _ (⟨(rd_T90 y1273 x5_1).f0, wrap64 (x1_1 + 1), (rd_T90 y1273 x5_1).f2, (rd_T90 y1273 x5_1).f3⟩ : S90) ) (fun _ hk => hk); have hx12_1 := hcc12 1 _ rfl; (try simp only [show (k90).sz = 4 from rfl, Nat.mul_one, Nat.add_zero] at hx12_1); have hf12_1 := hfr12 1; (try simp only [show (k90).sz = 4 from rfl, Nat.mul_one, Nat.add_zero] at hf12_1); clear hcl12 hcc12 hfr12 hM12) | ((with_reducible refine gate_store (t := 3) (p := 23) rfl ?_); refine store_event (t := 3) (p := 23) (v := ?vo_w13) (w1 := (w11.setCell ⟨go5, (x5_1 : Int).toNat * 4 + 1, none⟩ (.int .i64 (wrap64 (x1_1 + 1))))) ?hg ?ho ?hn ?hr ?_; (case ho => rfl); (case hg => rfl); (case hn => rfl); (case hr => first | (go_simp; done) | (go_simp; rfl)); intro w13 hw; have hg : w11.grownBy w13 (some go5) := (by rw [hw]; exact HP12.2); have hp_ : Kd.R k90 90 w13 w0.heap.size (fun k_ => (P0_ k_ ∨ w.heap.size ≤ k_)) (.slice (some ⟨go5, 0, none⟩) x0_1.length co9) y1274 := (by rw [hw, Ny1274.out]; exact HP12.1); clear HP12; have n0_ := Aside0.mk (hp_); have n1_ := Aside0.mk ((by rw [hw]; exact below_set (HB.out) GB5.out : Below w0.heap.size w0 w13)); have n2_ := Aside0.mk (Kept.of_grown (S := (fun k_ => P0_ k_)) hg (by repeat (first | (with_reducible first | exact HK.out | apply Kept.alloc | apply Kept.drewN | apply Kept.drew) | exact HK.out)) (fun k_ e_ => (HO_0.out.1 k_ e_))); clear HO_0; clear HB; clear HK; have HO_0 := n0_; have HB := n1_; have HK := n2_; clear n0_ n1_ n2_; clear hg hw hp_; have p7 : 0 ≤ (x5_1 : Int) := of_decide_eq_true (by first | (with_reducible assumption) | assumption); have q7 : (x5_1 : Int) < ((x0_1.length : Int) : Int) := of_decide_eq_true (by first | (with_reducible assumption) | assumption); obtain ⟨ce7, hcl7, hM7, hcc7, hfr7⟩ := Kd.R_elem HO_0.out z90 (x5_1 : Int) p7 q7; obtain rfl := k90_openM hM7; have hx7_0 : w13.cell? ⟨go5, (x5_1 : Int).toNat * 4, none⟩ = some (.int .i64 ((rd_T90 y1274 x5_1).f0)) := hcc7 0 _ rfl; have hx7_1 : w13.cell? ⟨go5, (x5_1 : Int).toNat * 4 + 1, none⟩ = some (.int .i64 ((rd_T90 y1274 x5_1).f1)) := hcc7 1 _ rfl; have hx7_2 : w13.cell? ⟨go5, (x5_1 : Int).toNat * 4 + 2, none⟩ = some (.int .i64 ((rd_T90 y1274 x5_1).f2)) := hcc7 2 _ rfl; have hx7_3 : w13.cell? ⟨go5, (x5_1 : Int).toNat * 4 + 3, none⟩ = some (.int .i64 ((rd_T90 y1274 x5_1).f3)) := hcc7 3 _ rfl; have hf7_0 : w13.frozen? ⟨go5, (x5_1 : Int).toNat * 4, none⟩ = false := hfr7 0; have hf7_1 : w13.frozen? ⟨go5, (x5_1 : Int).toNat * 4 + 1, none⟩ = false := hfr7 1; have hf7_2 : w13.frozen? ⟨go5, (x5_1 : Int).toNat * 4 + 2, none⟩ = false := hfr7 2; have hf7_3 : w13.frozen? ⟨go5, (x5_1 : Int).toNat * 4 + 3, none⟩ = false := hfr7 3; clear hcl7 hcc7 hfr7 hM7; replace p7 := eq_true p7; replace q7 := eq_true q7; have HX14 := Aside0.mk (show Kd.R k90 90 w13 w0.heap.size (fun k_ => (P0_ k_ ∨ w.heap.size ≤ k_)) (.slice (some ⟨go5, 0, none⟩) x0_1.length co9) y1274 from (by (with_reducible repeat (first | apply Kd.R_alloc | apply Kd.R_drewN | apply Kd.R_drew)); exact HO_0.out)); obtain ⟨ce14, hcl14, hM14, hcc14, hfr14⟩ := Kd.R_elem HX14.out z90 (x5_1 : Int) (of_decide_eq_true (by first | (with_reducible assumption) | assumption)) (by have h_ : (x5_1 : Int) < ((x0_1.length : Int) : Int) := of_decide_eq_true (by first | (with_reducible assumption) | assumption); first | exact h_ | (have e_ := (Kd.R_reads' HO_0.out).1; omega) | simpa using h_); obtain rfl := k90_openM hM14; have HP14 := Kd.R_seg HX14.out (x5_1 : Int) (of_decide_eq_true (by first | (with_reducible assumption) | assumption)) (by have h_ : (x5_1 : Int) < ((x0_1.length : Int) : Int) := of_decide_eq_true (by first | (with_reducible assumption) | assumption); first | exact h_ | (have e_ := (Kd.R_reads' HO_0.out).1; omega) | simpa using h_) (seg := [.int .i64 (wrap64 ((wrap64 (x1_1 + 1)) + 1))]) (j := 2) hcl14 hcc14 (show 3 ≤ 4 from by decide) (x' := (⟨(rd_T90 y1274 x5_1).f0, (rd_T90 y1274 x5_1).f1, wrap64 ((wrap64 (x1_1 + 1)) + 1), (rd_T90 y1274 x5_1).f3⟩ : S90)) (k90_mkM _ _ _ (⟨(rd_T90 y1274 x5_1).f0, (rd_T90 y1274 x5_1).f1, wrap64 ((wrap64 (x1_1 + 1)) + 1), (rd_T90 y1274 x5_1).f3⟩ : S90) ) (fun _ hk => hk); have hx14_2 := hcc14 2 _ rfl; (try simp only [show (k90).sz = 4 from rfl, Nat.mul_one, Nat.add_zero] at hx14_2); have hf14_2 := hfr14 2; (try simp only [show (k90).sz = 4 from rfl, Nat.mul_one, Nat.add_zero] at hf14_2); clear hcl14 hcc14 hfr14 hM14) | ((with_reducible refine gate_store (t := 3) (p := 30) rfl ?_); refine store_event (t := 3) (p := 30) (v := ?vo_w15) (w1 := (w13.setCell ⟨go5, (x5_1 : Int).toNat * 4 + 2, none⟩ (.int .i64 (wrap64 ((wrap64 (x1_1 + 1)) + 1))))) ?hg ?ho ?hn ?hr ?_; (case ho => rfl); (case hg => rfl); (case hn => rfl); (case hr => first | (go_simp; done) | (go_simp; rfl)); intro w15 hw; have hg : w13.grownBy w15 (some go5) := (by rw [hw]; exact HP14.2); have hp_ : Kd.R k90 90 w15 w0.heap.size (fun k_ => (P0_ k_ ∨ w.heap.size ≤ k_)) (.slice (some ⟨go5, 0, none⟩) x0_1.length co9) y1275 := (by rw [hw, Ny1275.out]; exact HP14.1); clear HP14; have n0_ := Aside0.mk (hp_); have n1_ := Aside0.mk ((by rw [hw]; exact below_set (HB.out) GB5.out : Below w0.heap.size w0 w15)); have n2_ := Aside0.mk (Kept.of_grown (S := (fun k_ => P0_ k_)) hg (by repeat (first | (with_reducible first | exact HK.out | apply Kept.alloc | apply Kept.drewN | apply Kept.drew) | exact HK.out)) (fun k_ e_ => (HO_0.out.1 k_ e_))); clear HO_0; clear HB; clear HK; have HO_0 := n0_; have HB := n1_; have HK := n2_; clear n0_ n1_ n2_; clear hg hw hp_; have p8 : 0 ≤ (x5_1 : Int) := of_decide_eq_true (by first | (with_reducible assumption) | assumption); have q8 : (x5_1 : Int) < ((x0_1.length : Int) : Int) := of_decide_eq_true (by first | (with_reducible assumption) | assumption); obtain ⟨ce8, hcl8, hM8, hcc8, hfr8⟩ := Kd.R_elem HO_0.out z90 (x5_1 : Int) p8 q8; obtain rfl := k90_openM hM8; have hx8_0 : w15.cell? ⟨go5, (x5_1 : Int).toNat * 4, none⟩ = some (.int .i64 ((rd_T90 y1275 x5_1).f0)) := hcc8 0 _ rfl; have hx8_1 : w15.cell? ⟨go5, (x5_1 : Int).toNat * 4 + 1, none⟩ = some (.int .i64 ((rd_T90 y1275 x5_1).f1)) := hcc8 1 _ rfl; have hx8_2 : w15.cell? ⟨go5, (x5_1 : Int).toNat * 4 + 2, none⟩ = some (.int .i64 ((rd_T90 y1275 x5_1).f2)) := hcc8 2 _ rfl; have hx8_3 : w15.cell? ⟨go5, (x5_1 : Int).toNat * 4 + 3, none⟩ = some (.int .i64 ((rd_T90 y1275 x5_1).f3)) := hcc8 3 _ rfl; have hf8_0 : w15.frozen? ⟨go5, (x5_1 : Int).toNat * 4, none⟩ = false := hfr8 0; have hf8_1 : w15.frozen? ⟨go5, (x5_1 : Int).toNat * 4 + 1, none⟩ = false := hfr8 1; have hf8_2 : w15.frozen? ⟨go5, (x5_1 : Int).toNat * 4 + 2, none⟩ = false := hfr8 2; have hf8_3 : w15.frozen? ⟨go5, (x5_1 : Int).toNat * 4 + 3, none⟩ = false := hfr8 3; clear hcl8 hcc8 hfr8 hM8; replace p8 := eq_true p8; replace q8 := eq_true q8; have HX16 := Aside0.mk (show Kd.R k90 90 w15 w0.heap.size (fun k_ => (P0_ k_ ∨ w.heap.size ≤ k_)) (.slice (some ⟨go5, 0, none⟩) x0_1.length co9) y1275 from (by (with_reducible repeat (first | apply Kd.R_alloc | apply Kd.R_drewN | apply Kd.R_drew)); exact HO_0.out)); obtain ⟨ce16, hcl16, hM16, hcc16, hfr16⟩ := Kd.R_elem HX16.out z90 (x5_1 : Int) (of_decide_eq_true (by first | (with_reducible assumption) | assumption)) (by have h_ : (x5_1 : Int) < ((x0_1.length : Int) : Int) := of_decide_eq_true (by first | (with_reducible assumption) | assumption); first | exact h_ | (have e_ := (Kd.R_reads' HO_0.out).1; omega) | simpa using h_); obtain rfl := k90_openM hM16; have HP16 := Kd.R_seg HX16.out (x5_1 : Int) (of_decide_eq_true (by first | (with_reducible assumption) | assumption)) (by have h_ : (x5_1 : Int) < ((x0_1.length : Int) : Int) := of_decide_eq_true (by first | (with_reducible assumption) | assumption); first | exact h_ | (have e_ := (Kd.R_reads' HO_0.out).1; omega) | simpa using h_) (seg := [.int .i64 (wrap64 ((wrap64 ((wrap64 (x1_1 + 1)) + 1)) + 1))]) (j := 3) hcl16 hcc16 (show 4 ≤ 4 from by decide) (x' := (⟨(rd_T90 y1275 x5_1).f0, (rd_T90 y1275 x5_1).f1, (rd_T90 y1275 x5_1).f2, wrap64 ((wrap64 ((wrap64 (x1_1 + 1)) + 1)) + 1)⟩ : S90)) (k90_mkM _ _ _ (⟨(rd_T90 y1275 x5_1).f0, (rd_T90 y1275 x5_1).f1, (rd_T90 y1275 x5_1).f2, wrap64 ((wrap64 ((wrap64 (x1_1 + 1)) + 1)) + 1)⟩ : S90) ) (fun _ hk => hk); have hx16_3 := hcc16 3 _ rfl; (try simp only [show (k90).sz = 4 from rfl, Nat.mul_one, Nat.add_zero] at hx16_3); have hf16_3 := hfr16 3; (try simp only [show (k90).sz = 4 from rfl, Nat.mul_one, Nat.add_zero] at hf16_3); clear hcl16 hcc16 hfr16 hM16) | ((with_reducible refine gate_store (t := 3) (p := 37) rfl ?_); refine store_event (t := 3) (p := 37) (v := ?vo_w17) (w1 := (w15.setCell ⟨go5, (x5_1 : Int).toNat * 4 + 3, none⟩ (.int .i64 (wrap64 ((wrap64 ((wrap64 (x1_1 + 1)) + 1)) + 1))))) ?hg ?ho ?hn ?hr ?_; (case ho => rfl); (case hg => rfl); (case hn => rfl); (case hr => first | (go_simp; done) | (go_simp; rfl)); intro w17 hw; have hg : w15.grownBy w17 (some go5) := (by rw [hw]; exact HP16.2); have hp_ : Kd.R k90 90 w17 w0.heap.size (fun k_ => (P0_ k_ ∨ w.heap.size ≤ k_)) (.slice (some ⟨go5, 0, none⟩) x0_1.length co9) y1276 := (by rw [hw, Ny1276.out]; exact HP16.1); clear HP16; have n0_ := Aside0.mk (hp_); have n1_ := Aside0.mk ((by rw [hw]; exact below_set (HB.out) GB5.out : Below w0.heap.size w0 w17)); have n2_ := Aside0.mk (Kept.of_grown (S := (fun k_ => P0_ k_)) hg (by repeat (first | (with_reducible first | exact HK.out | apply Kept.alloc | apply Kept.drewN | apply Kept.drew) | exact HK.out)) (fun k_ e_ => (HO_0.out.1 k_ e_))); clear HO_0; clear HB; clear HK; have HO_0 := n0_; have HB := n1_; have HK := n2_; clear n0_ n1_ n2_; clear hg hw hp_))
          go_roundg k1
          case measure => have := HK1.out; omega
          case rel => exact ⟨(y1276), (wrap64 ((wrap64 ((wrap64 ((wrap64 (x1_1 + 1)) + 1)) + 1)) + 1)), (wrap64 (x5_1 + 1)), (by first | rfl | (simp; done) | (simp [*]; done)), (by first | rfl | (simp; done) | (simp [*]; done)), H', ⟨by have := HK1.out; omega⟩, ⟨by (with_reducible repeat (first | apply Kd.R_alloc | apply Kd.R_drewN | apply Kd.R_drew)); exact HO_0.out⟩, ⟨by repeat (first | (with_reducible first | exact HK.out | apply Kept.alloc | apply Kept.drewN | apply Kept.drew) | exact HK.out)⟩, ⟨by repeat (first | (with_reducible first | exact HB.out | apply below_alloc | apply pw_below_drewN | apply below_drew1) | exact HB.out)⟩⟩
        · rw [if_neg c4] at H
          exact absurd H (by simp)
      · rw [if_neg c3] at H
        have c3b0 : decide (x5_1 < (x0_1.length : Int)) = false := decide_eq_false c3
        clear c3
        simp only [Option.some.injEq, Prod.mk.injEq] at H
        obtain ⟨rfl, rfl⟩ := H
        obtain ⟨Ao18, co18, eo18⟩ := Kd.R_slice HO_0.out
        subst eo18
        go_wp2
        go_ret
        exact ⟨by first | rfl | (simp [errW_none, errW_some] <;> rfl) | (simp [*, errW_none, errW_some] <;> rfl), by (with_reducible repeat (first | apply Kd.R_alloc | apply Kd.R_drewN | apply Kd.R_drew)); exact HO_0.out, by repeat (first | (with_reducible first | exact HB.out | apply below_alloc | apply pw_below_drewN | apply below_drew1) | exact HB.out), by repeat (first | (with_reducible first | exact HK.out | apply Kept.alloc | apply Kept.drewN | apply Kept.drew) | exact HK.out)⟩

end Go.Proofs.Ytdolplcbokioaaa.PB

/- Functions of the translation as plain Lean functions, and for each that its call comes to just what its Lean function answers; its conditions stand in each theorem. Written by a program of this session. -/
namespace Go.Proofs.Ytdolplcbokioaaa.PB
open Go.RowKit Go.Proofs.YtdolplcbokioaaaW.PrintWords Go.Proofs.YtdolplcbokioaaaW.PrintLast Go.Proofs.YtdolplcbokioaaaW.PrintMore
attribute [local go_sem] max2_int min2_int max_two min_two max_three min_three max_four min_four   -- for this text's walks alone
set_option linter.unusedVariables false
set_option linter.unusedSimpArgs false

/-! ### laws_markText: function 126 -/
def laws_markText.l0 : Nat → Int → ByteArray → Option (ByteArray)
  | 0, _, _ => none
  | k + 1, x0, x3 => if x0 > 0 then ((some (([(wrap64 (48 + (Int.tmod x0 10))) % 256] : List Int) : List Int)).bind fun y1277 => (if (strOfNums y1277).size + x3.size ≤ 9223372036854775807 then (laws_markText.l0 k (wrap64 (Int.tdiv x0 10)) ((strOfNums y1277) ++ x3)) else (none))) else (if 1 + x3.size ≤ 9223372036854775807 then (some ((⟨#[109]⟩ : ByteArray) ++ x3)) else (none))
def laws_markText.f (k : Nat) (a0 : Int) : Option (ByteArray) := if a0 ≤ 0 then (some (⟨#[109, 48]⟩ : ByteArray)) else (laws_markText.l0 k a0 (⟨#[]⟩ : ByteArray))
theorem laws_markText.mono_l : ∀ k, (∀ y0 y1, LeO (laws_markText.l0 k y0 y1) (laws_markText.l0 (k + 1) y0 y1))
  | 0 => fun _ _ r h => by simp [laws_markText.l0] at h
  | k + 1 => by
    have ih0 := laws_markText.mono_l k
    · intro y0 y1
      unfold laws_markText.l0
      repeat' first
      | (with_reducible exact ih0 _ _)
      | (with_reducible exact LeO.refl _)
      | (with_reducible exact LeO.none _)
      | (with_reducible refine LeO.ite ?_ ?_)
      | (with_reducible refine LeO.bind ?_ (fun _ => ?_))
      | exact ih0 _ _
      | exact LeO.none _
      | refine LeO.ite ?_ ?_
      | refine LeO.bind ?_ (fun _ => ?_)
theorem laws_markText.mono : ∀ a0 k, LeO (laws_markText.f k a0) (laws_markText.f (k + 1) a0) := by
  intro a0 k
  have ih0 := laws_markText.mono_l k
  unfold laws_markText.f
  repeat' first
      | (with_reducible exact ih0 _ _)
      | (with_reducible exact LeO.refl _)
      | (with_reducible exact LeO.none _)
      | (with_reducible refine LeO.ite ?_ ?_)
      | (with_reducible refine LeO.bind ?_ (fun _ => ?_))
      | exact ih0 _ _
      | exact LeO.none _
      | refine LeO.ite ?_ ?_
      | refine LeO.bind ?_ (fun _ => ?_)
set_option maxHeartbeats 8000000 in
set_option maxRecDepth 100000 in
theorem laws_markText.calls (k : Nat) (a0 : Int) (r : ByteArray) (w : World) (h : laws_markText.f k a0 = some r) :
    Calls Try.prog 126 #[.int .i64 a0] w fun e w' => e = .returned (.string r) ∧ Below w.heap.size w w' := by
  have HB := Aside0.mk (Below.refl w.heap.size w)
  have H : (if a0 ≤ 0 then (some (⟨#[109, 48]⟩ : ByteArray)) else (laws_markText.l0 k a0 (⟨#[]⟩ : ByteArray))) = some r := h
  clear h
  by_cases c2 : a0 ≤ 0
  · rw [if_pos c2] at H
    have c2b0 : decide (a0 ≤ 0) = true := decide_eq_true c2
    clear c2
    obtain rfl := Option.some.inj H
    go_enter Try.func126, Try.ntmps126
    go_wp2
    go_ret
    exact ⟨by first | rfl | (simp [errW_none, errW_some] <;> rfl) | (simp [*, errW_none, errW_some] <;> rfl), by repeat (first | (with_reducible first | exact HB.out | apply below_alloc | apply pw_below_drewN | apply below_drew1) | exact HB.out)⟩
  · rw [if_neg c2] at H
    have c2b0 : decide (a0 ≤ 0) = false := decide_eq_false c2
    clear c2
    have H' := Aside0.mk H
    clear H
    go_enter Try.func126, Try.ntmps126
    go_wp2
    go_loopg [0, 3] k (fun kq v0 v3 w' => ∃ (x0_1 : Int) (x3_1 : ByteArray), v0 = .int .i64 x0_1 ∧ v3 = .string x3_1 ∧ Aside0 (laws_markText.l0 kq x0_1 x3_1 = some r) ∧ Aside0 (kq ≤ k) ∧ Aside0 (Below w.heap.size w w'))
    case atStart => exact ⟨(a0), ((⟨#[]⟩ : ByteArray)), (by first | rfl | (simp; done) | (simp [*]; done)), (by first | rfl | (simp; done) | (simp [*]; done)), H', ⟨Nat.le_refl _⟩, ⟨by repeat (first | (with_reducible first | exact HB.out | apply below_alloc | apply pw_below_drewN | apply below_drew1) | exact HB.out)⟩⟩
    case round =>
      clear H'
      try clear c1
      try clear c2
      try clear c2b0
      try clear p2
      obtain ⟨x0_1, x3_1, rfl, rfl, HA, HK1, HB⟩ := hrel
      cases gk with
      | zero => exact absurd HA.out (by simp [laws_markText.l0])
      | succ k1 =>
        have H := HA.out
        clear HA
        simp only [laws_markText.l0] at H
        by_cases c3 : x0_1 > 0
        · rw [if_pos c3] at H
          have c3b0 : decide (0 < x0_1) = true := decide_eq_true c3
          clear c3
          obtain ⟨y1277, hy1277⟩ : ∃ y_ : List Int, y_ = (([(wrap64 (48 + (Int.tmod x0_1 10))) % 256] : List Int)) := ⟨_, rfl⟩
          replace H : (if (strOfNums y1277).size + x3_1.size ≤ 9223372036854775807 then (laws_markText.l0 k1 (wrap64 (Int.tdiv x0_1 10)) ((strOfNums y1277) ++ x3_1)) else (none)) = some r := by first | (rw [hy1277]; with_reducible exact H) | (have H2_ := (Option.bind_some _ _).symm.trans H; rw [hy1277]; with_reducible exact H2_) | (have H2_ := (Option.bind_some _ _).symm.trans H; with_reducible exact H2_) | with_reducible exact H | (rw [hy1277]; exact H) | exact H
          have Ny1277 := Aside0.mk hy1277
          clear hy1277
          by_cases c4 : (strOfNums y1277).size + x3_1.size ≤ 9223372036854775807
          · rw [if_pos c4] at H
            have c4b0 := eq_true c4
            have c4b1 : decide ((strOfNums y1277).size + x3_1.size ≤ 9223372036854775807) = true := decide_eq_true c4
            try have c4b2 : (9223372036854775807 < (strOfNums y1277).size + x3_1.size) = False := eq_false (Nat.not_lt.2 c4)
            have H' := Aside0.mk H
            clear H
            go_wp2_with (first | ((with_reducible refine gate_dst (N := 12) rfl ?_); refine Kd.R_lit (Kd.int .u8) _ 5 ?hg (N := 12) ?hd (xs := ([(wrap64 (48 + (Int.tmod x0_1 10))) % 256] : List Int)) (inner := [.int .u8 ((wrap64 (48 + (Int.tmod x0_1 10))) % 256)]) (ok := fun _ => True) (okp := fun _ => True) ?hr ?hp (fun _ hk => hk) trivial (Below.refl _ _) (Nat.le_refl _) (by simp) ?_; (case hd => rfl); (case hg => rfl); (case hr => first | (go_simp; done) | (go_simp; rfl)); (case hp => exact (Reps.one (show Kd.M (Kd.int .u8) _ _ _ ((wrap64 (48 + (Int.tmod x0_1 10))) % 256) [.int .u8 ((wrap64 (48 + (Int.tmod x0_1 10))) % 256)] from rfl) (Reps.none _ _))); intro v1278 w5 ho6 hb hg_ hnew_; clear hg_ hnew_; (first | rw [← Ny1277.out] at ho6 | (simp only [Int.reduceToNat] at ho6; rw [← Ny1277.out] at ho6)); have n0_ := Aside0.mk (Kd.R_lower ho6 (below_size (by repeat (first | (with_reducible first | exact HB.out | apply below_alloc | apply pw_below_drewN | apply below_drew1) | exact HB.out)))); have n1_ := Aside0.mk (below_step (by repeat (first | (with_reducible first | exact HB.out | apply below_alloc | apply pw_below_drewN | apply below_drew1) | exact HB.out)) hb); clear HB; have HO1279 := n0_; have HB := n1_; clear n0_ n1_; clear hb ho6; have hcv7 := own_string (P := Try.prog) Try.underlying22 Try.underlying5 Try.underlying9 (Kd.own_of_R HO1279.out)))
            go_roundg k1
            case measure => have := HK1.out; omega
            case rel => exact ⟨(wrap64 (Int.tdiv x0_1 10)), ((strOfNums y1277) ++ x3_1), (by first | rfl | (simp; done) | (simp [*]; done)), (by first | rfl | (simp; done) | (simp [*]; done)), H', ⟨by have := HK1.out; omega⟩, ⟨by repeat (first | (with_reducible first | exact HB.out | apply below_alloc | apply pw_below_drewN | apply below_drew1) | exact HB.out)⟩⟩
          · rw [if_neg c4] at H
            exact absurd H (by simp)
        · rw [if_neg c3] at H
          have c3b0 : decide (0 < x0_1) = false := decide_eq_false c3
          clear c3
          by_cases c8 : 1 + x3_1.size ≤ 9223372036854775807
          · rw [if_pos c8] at H
            have c8b0 := eq_true c8
            have c8b1 : decide (1 + x3_1.size ≤ 9223372036854775807) = true := decide_eq_true c8
            try have c8b2 : (9223372036854775807 < 1 + x3_1.size) = False := eq_false (Nat.not_lt.2 c8)
            obtain rfl := Option.some.inj H
            go_wp2
            go_ret
            exact ⟨by first | rfl | (simp [errW_none, errW_some] <;> rfl) | (simp [*, errW_none, errW_some] <;> rfl), by repeat (first | (with_reducible first | exact HB.out | apply below_alloc | apply pw_below_drewN | apply below_drew1) | exact HB.out)⟩
          · rw [if_neg c8] at H
            exact absurd H (by simp)

end Go.Proofs.Ytdolplcbokioaaa.PB

/- Functions of the translation as plain Lean functions, and for each that its call comes to just what its Lean function answers; its conditions stand in each theorem. Written by a program of this session. -/
namespace Go.Proofs.Ytdolplcbokioaaa.PB
open Go.RowKit Go.Proofs.YtdolplcbokioaaaW.PrintWords Go.Proofs.YtdolplcbokioaaaW.PrintLast Go.Proofs.YtdolplcbokioaaaW.PrintMore
attribute [local go_sem] max2_int min2_int max_two min_two max_three min_three max_four min_four   -- for this text's walks alone
set_option linter.unusedVariables false
set_option linter.unusedSimpArgs false

/-! ### laws_markPageS: function 62 -/
def laws_markPageS.l0 : Nat → List (S33) → Int → Int → Option (Int × (List (S33)))
  | 0, _, _, _ => none
  | k + 1, x0, x1, x5 => if x5 < (x0.length : Int) then (if 0 ≤ x5 then ((some (x0.set (x5 : Int).toNat (⟨x1, (rd_T33 x0 x5).f1, (rd_T33 x0 x5).f2, (rd_T33 x0 x5).f3, (rd_T33 x0 x5).f4, (rd_T33 x0 x5).f5⟩ : S33) : List (S33))).bind fun y1280 => ((some (y1280.set (x5 : Int).toNat (⟨(rd_T33 y1280 x5).f0, wrap64 (x1 + 1), (rd_T33 y1280 x5).f2, (rd_T33 y1280 x5).f3, (rd_T33 y1280 x5).f4, (rd_T33 y1280 x5).f5⟩ : S33) : List (S33))).bind fun y1281 => ((some (y1281.set (x5 : Int).toNat (⟨(rd_T33 y1281 x5).f0, (rd_T33 y1281 x5).f1, wrap64 ((wrap64 (x1 + 1)) + 1), (rd_T33 y1281 x5).f3, (rd_T33 y1281 x5).f4, (rd_T33 y1281 x5).f5⟩ : S33) : List (S33))).bind fun y1282 => ((some (y1282.set (x5 : Int).toNat (⟨(rd_T33 y1282 x5).f0, (rd_T33 y1282 x5).f1, (rd_T33 y1282 x5).f2, wrap64 ((wrap64 ((wrap64 (x1 + 1)) + 1)) + 1), (rd_T33 y1282 x5).f4, (rd_T33 y1282 x5).f5⟩ : S33) : List (S33))).bind fun y1283 => ((some (y1283.set (x5 : Int).toNat (⟨(rd_T33 y1283 x5).f0, (rd_T33 y1283 x5).f1, (rd_T33 y1283 x5).f2, (rd_T33 y1283 x5).f3, wrap64 ((wrap64 ((wrap64 ((wrap64 (x1 + 1)) + 1)) + 1)) + 1), (rd_T33 y1283 x5).f5⟩ : S33) : List (S33))).bind fun y1284 => ((laws_markText.f k (wrap64 ((wrap64 ((wrap64 ((wrap64 ((wrap64 (x1 + 1)) + 1)) + 1)) + 1)) + 1))).bind fun t1285 => (laws_markPageS.l0 k (y1284.set (x5 : Int).toNat (⟨(rd_T33 y1284 x5).f0, (rd_T33 y1284 x5).f1, (rd_T33 y1284 x5).f2, (rd_T33 y1284 x5).f3, (rd_T33 y1284 x5).f4, t1285⟩ : S33)) (wrap64 ((wrap64 ((wrap64 ((wrap64 ((wrap64 ((wrap64 (x1 + 1)) + 1)) + 1)) + 1)) + 1)) + 1)) (wrap64 (x5 + 1))))))))) else (none)) else (some (x1, x0))
def laws_markPageS.f (k : Nat) (l0 : List (S33)) (a1 : Int) : Option (Int × (List (S33))) := laws_markPageS.l0 k l0 a1 0
theorem laws_markPageS.mono_l : ∀ k, (∀ y0 y1 y2, LeO (laws_markPageS.l0 k y0 y1 y2) (laws_markPageS.l0 (k + 1) y0 y1 y2))
  | 0 => fun _ _ _ r h => by simp [laws_markPageS.l0] at h
  | k + 1 => by
    have ih0 := laws_markPageS.mono_l k
    · intro y0 y1 y2
      unfold laws_markPageS.l0
      repeat' first
      | (with_reducible exact ih0 _ _ _)
      | (with_reducible exact laws_markText.mono _ _)
      | (with_reducible exact LeO.refl _)
      | (with_reducible exact LeO.none _)
      | (with_reducible refine LeO.ite ?_ ?_)
      | (with_reducible refine LeO.bind ?_ (fun _ => ?_))
      | exact ih0 _ _ _
      | exact laws_markText.mono _ _
      | exact LeO.none _
      | refine LeO.ite ?_ ?_
      | refine LeO.bind ?_ (fun _ => ?_)
theorem laws_markPageS.mono : ∀ a0 a1 k, LeO (laws_markPageS.f k a0 a1) (laws_markPageS.f (k + 1) a0 a1) := by
  intro a0 a1 k
  have ih0 := laws_markPageS.mono_l k
  unfold laws_markPageS.f
  repeat' first
      | (with_reducible exact ih0 _ _ _)
      | (with_reducible exact laws_markText.mono _ _)
      | (with_reducible exact LeO.refl _)
      | (with_reducible exact LeO.none _)
      | (with_reducible refine LeO.ite ?_ ?_)
      | (with_reducible refine LeO.bind ?_ (fun _ => ?_))
      | exact ih0 _ _ _
      | exact laws_markText.mono _ _
      | exact LeO.none _
      | refine LeO.ite ?_ ?_
      | refine LeO.bind ?_ (fun _ => ?_)
set_option maxHeartbeats 8000000 in
set_option maxRecDepth 100000 in
theorem laws_markPageS.calls (k : Nat) (P0_ : Nat → Prop) (u9000_ : Value) (l0 : List (S33)) (a1 : Int) (r1 : Int) (r2 : List (S33)) (w0 w : World) (hB : Below w0.heap.size w0 w) (ho0 : Kd.R k33 33 w w0.heap.size P0_ u9000_ l0) (h : laws_markPageS.f k l0 a1 = some (r1, r2)) :
    Calls Try.prog 62 #[u9000_, .int .i64 a1] w fun e w' => e = .returned (.int .i64 r1) ∧ Kd.R k33 33 w' w0.heap.size (fun k_ => (P0_ k_ ∨ w.heap.size ≤ k_)) u9000_ r2 ∧ Below w0.heap.size w0 w' ∧ Kept w w' (fun k_ => P0_ k_) := by
  have HO0 := Aside0.mk (show Kd.R k33 33 w w0.heap.size (fun k_ => (P0_ k_ ∨ w.heap.size ≤ k_)) u9000_ l0 from Kd.R_mono ho0 (fun k_ hk => (.inl hk)))
  have HK := Aside0.mk (Kept.refl w (fun k_ => P0_ k_))
  have HW0 := Aside0.mk hB.size
  have HB := Aside0.mk hB
  clear hB
  have H : (laws_markPageS.l0 k l0 a1 0) = some (r1, r2) := h
  clear h
  have H' := Aside0.mk H
  clear H
  go_enter Try.func62, Try.ntmps62
  go_wp2
  go_loopg [1, 5] k (fun kq v1 v5 w' => ∃ (x0_1 : List (S33)) (x1_1 : Int) (x5_1 : Int), v1 = .int .i64 x1_1 ∧ v5 = .int .i64 x5_1 ∧ Aside0 (laws_markPageS.l0 kq x0_1 x1_1 x5_1 = some (r1, r2)) ∧ Aside0 (kq ≤ k) ∧ Aside0 (Kd.R k33 33 w' w0.heap.size (fun k_ => (P0_ k_ ∨ w.heap.size ≤ k_)) u9000_ x0_1) ∧ Aside0 (Kept w w' (fun k_ => P0_ k_)) ∧ Aside0 (Below w0.heap.size w0 w'))
  case atStart => exact ⟨(l0), (a1), (0), (by first | rfl | (simp; done) | (simp [*]; done)), (by first | rfl | (simp; done) | (simp [*]; done)), H', ⟨Nat.le_refl _⟩, ⟨by (with_reducible repeat (first | apply Kd.R_alloc | apply Kd.R_drewN | apply Kd.R_drew)); exact HO0.out⟩, ⟨by repeat (first | (with_reducible first | exact HK.out | apply Kept.alloc | apply Kept.drewN | apply Kept.drew) | exact HK.out)⟩, ⟨by repeat (first | (with_reducible first | exact HB.out | apply below_alloc | apply pw_below_drewN | apply below_drew1) | exact HB.out)⟩⟩
  case round =>
    clear H'
    try clear p2
    obtain ⟨x0_1, x1_1, x5_1, rfl, rfl, HA, HK1, HO_0, HK, HB⟩ := hrel
    cases gk with
    | zero => exact absurd HA.out (by simp [laws_markPageS.l0])
    | succ k1 =>
      have H := HA.out
      clear HA
      simp only [laws_markPageS.l0] at H
      by_cases c3 : x5_1 < (x0_1.length : Int)
      · rw [if_pos c3] at H
        have c3b0 : decide (x5_1 < (x0_1.length : Int)) = true := decide_eq_true c3
        clear c3
        by_cases c4 : 0 ≤ x5_1
        · rw [if_pos c4] at H
          have c4b0 : decide (0 ≤ x5_1) = true := decide_eq_true c4
          clear c4
          obtain ⟨y1280, hy1280⟩ : ∃ y_ : List (S33), y_ = (x0_1.set (x5_1 : Int).toNat (⟨x1_1, (rd_T33 x0_1 x5_1).f1, (rd_T33 x0_1 x5_1).f2, (rd_T33 x0_1 x5_1).f3, (rd_T33 x0_1 x5_1).f4, (rd_T33 x0_1 x5_1).f5⟩ : S33)) := ⟨_, rfl⟩
          replace H : ((some (y1280.set (x5_1 : Int).toNat (⟨(rd_T33 y1280 x5_1).f0, wrap64 (x1_1 + 1), (rd_T33 y1280 x5_1).f2, (rd_T33 y1280 x5_1).f3, (rd_T33 y1280 x5_1).f4, (rd_T33 y1280 x5_1).f5⟩ : S33) : List (S33))).bind fun y1281 => ((some (y1281.set (x5_1 : Int).toNat (⟨(rd_T33 y1281 x5_1).f0, (rd_T33 y1281 x5_1).f1, wrap64 ((wrap64 (x1_1 + 1)) + 1), (rd_T33 y1281 x5_1).f3, (rd_T33 y1281 x5_1).f4, (rd_T33 y1281 x5_1).f5⟩ : S33) : List (S33))).bind fun y1282 => ((some (y1282.set (x5_1 : Int).toNat (⟨(rd_T33 y1282 x5_1).f0, (rd_T33 y1282 x5_1).f1, (rd_T33 y1282 x5_1).f2, wrap64 ((wrap64 ((wrap64 (x1_1 + 1)) + 1)) + 1), (rd_T33 y1282 x5_1).f4, (rd_T33 y1282 x5_1).f5⟩ : S33) : List (S33))).bind fun y1283 => ((some (y1283.set (x5_1 : Int).toNat (⟨(rd_T33 y1283 x5_1).f0, (rd_T33 y1283 x5_1).f1, (rd_T33 y1283 x5_1).f2, (rd_T33 y1283 x5_1).f3, wrap64 ((wrap64 ((wrap64 ((wrap64 (x1_1 + 1)) + 1)) + 1)) + 1), (rd_T33 y1283 x5_1).f5⟩ : S33) : List (S33))).bind fun y1284 => ((laws_markText.f k1 (wrap64 ((wrap64 ((wrap64 ((wrap64 ((wrap64 (x1_1 + 1)) + 1)) + 1)) + 1)) + 1))).bind fun t1285 => (laws_markPageS.l0 k1 (y1284.set (x5_1 : Int).toNat (⟨(rd_T33 y1284 x5_1).f0, (rd_T33 y1284 x5_1).f1, (rd_T33 y1284 x5_1).f2, (rd_T33 y1284 x5_1).f3, (rd_T33 y1284 x5_1).f4, t1285⟩ : S33)) (wrap64 ((wrap64 ((wrap64 ((wrap64 ((wrap64 ((wrap64 (x1_1 + 1)) + 1)) + 1)) + 1)) + 1)) + 1)) (wrap64 (x5_1 + 1)))))))) = some (r1, r2) := by first | (rw [hy1280]; with_reducible exact H) | (have H2_ := (Option.bind_some _ _).symm.trans H; rw [hy1280]; with_reducible exact H2_) | (have H2_ := (Option.bind_some _ _).symm.trans H; with_reducible exact H2_) | with_reducible exact H | (rw [hy1280]; exact H) | exact H
          have Ny1280 := Aside0.mk hy1280
          clear hy1280
          obtain ⟨y1281, hy1281⟩ : ∃ y_ : List (S33), y_ = (y1280.set (x5_1 : Int).toNat (⟨(rd_T33 y1280 x5_1).f0, wrap64 (x1_1 + 1), (rd_T33 y1280 x5_1).f2, (rd_T33 y1280 x5_1).f3, (rd_T33 y1280 x5_1).f4, (rd_T33 y1280 x5_1).f5⟩ : S33)) := ⟨_, rfl⟩
          replace H : ((some (y1281.set (x5_1 : Int).toNat (⟨(rd_T33 y1281 x5_1).f0, (rd_T33 y1281 x5_1).f1, wrap64 ((wrap64 (x1_1 + 1)) + 1), (rd_T33 y1281 x5_1).f3, (rd_T33 y1281 x5_1).f4, (rd_T33 y1281 x5_1).f5⟩ : S33) : List (S33))).bind fun y1282 => ((some (y1282.set (x5_1 : Int).toNat (⟨(rd_T33 y1282 x5_1).f0, (rd_T33 y1282 x5_1).f1, (rd_T33 y1282 x5_1).f2, wrap64 ((wrap64 ((wrap64 (x1_1 + 1)) + 1)) + 1), (rd_T33 y1282 x5_1).f4, (rd_T33 y1282 x5_1).f5⟩ : S33) : List (S33))).bind fun y1283 => ((some (y1283.set (x5_1 : Int).toNat (⟨(rd_T33 y1283 x5_1).f0, (rd_T33 y1283 x5_1).f1, (rd_T33 y1283 x5_1).f2, (rd_T33 y1283 x5_1).f3, wrap64 ((wrap64 ((wrap64 ((wrap64 (x1_1 + 1)) + 1)) + 1)) + 1), (rd_T33 y1283 x5_1).f5⟩ : S33) : List (S33))).bind fun y1284 => ((laws_markText.f k1 (wrap64 ((wrap64 ((wrap64 ((wrap64 ((wrap64 (x1_1 + 1)) + 1)) + 1)) + 1)) + 1))).bind fun t1285 => (laws_markPageS.l0 k1 (y1284.set (x5_1 : Int).toNat (⟨(rd_T33 y1284 x5_1).f0, (rd_T33 y1284 x5_1).f1, (rd_T33 y1284 x5_1).f2, (rd_T33 y1284 x5_1).f3, (rd_T33 y1284 x5_1).f4, t1285⟩ : S33)) (wrap64 ((wrap64 ((wrap64 ((wrap64 ((wrap64 ((wrap64 (x1_1 + 1)) + 1)) + 1)) + 1)) + 1)) + 1)) (wrap64 (x5_1 + 1))))))) = some (r1, r2) := by first | (rw [hy1281]; with_reducible exact H) | (have H2_ := (Option.bind_some _ _).symm.trans H; rw [hy1281]; with_reducible exact H2_) | (have H2_ := (Option.bind_some _ _).symm.trans H; with_reducible exact H2_) | with_reducible exact H | (rw [hy1281]; exact H) | exact H
          have Ny1281 := Aside0.mk hy1281
          clear hy1281
          obtain ⟨y1282, hy1282⟩ : ∃ y_ : List (S33), y_ = (y1281.set (x5_1 : Int).toNat (⟨(rd_T33 y1281 x5_1).f0, (rd_T33 y1281 x5_1).f1, wrap64 ((wrap64 (x1_1 + 1)) + 1), (rd_T33 y1281 x5_1).f3, (rd_T33 y1281 x5_1).f4, (rd_T33 y1281 x5_1).f5⟩ : S33)) := ⟨_, rfl⟩
          replace H : ((some (y1282.set (x5_1 : Int).toNat (⟨(rd_T33 y1282 x5_1).f0, (rd_T33 y1282 x5_1).f1, (rd_T33 y1282 x5_1).f2, wrap64 ((wrap64 ((wrap64 (x1_1 + 1)) + 1)) + 1), (rd_T33 y1282 x5_1).f4, (rd_T33 y1282 x5_1).f5⟩ : S33) : List (S33))).bind fun y1283 => ((some (y1283.set (x5_1 : Int).toNat (⟨(rd_T33 y1283 x5_1).f0, (rd_T33 y1283 x5_1).f1, (rd_T33 y1283 x5_1).f2, (rd_T33 y1283 x5_1).f3, wrap64 ((wrap64 ((wrap64 ((wrap64 (x1_1 + 1)) + 1)) + 1)) + 1), (rd_T33 y1283 x5_1).f5⟩ : S33) : List (S33))).bind fun y1284 => ((laws_markText.f k1 (wrap64 ((wrap64 ((wrap64 ((wrap64 ((wrap64 (x1_1 + 1)) + 1)) + 1)) + 1)) + 1))).bind fun t1285 => (laws_markPageS.l0 k1 (y1284.set (x5_1 : Int).toNat (⟨(rd_T33 y1284 x5_1).f0, (rd_T33 y1284 x5_1).f1, (rd_T33 y1284 x5_1).f2, (rd_T33 y1284 x5_1).f3, (rd_T33 y1284 x5_1).f4, t1285⟩ : S33)) (wrap64 ((wrap64 ((wrap64 ((wrap64 ((wrap64 ((wrap64 (x1_1 + 1)) + 1)) + 1)) + 1)) + 1)) + 1)) (wrap64 (x5_1 + 1)))))) = some (r1, r2) := by first | (rw [hy1282]; with_reducible exact H) | (have H2_ := (Option.bind_some _ _).symm.trans H; rw [hy1282]; with_reducible exact H2_) | (have H2_ := (Option.bind_some _ _).symm.trans H; with_reducible exact H2_) | with_reducible exact H | (rw [hy1282]; exact H) | exact H
          have Ny1282 := Aside0.mk hy1282
          clear hy1282
          obtain ⟨y1283, hy1283⟩ : ∃ y_ : List (S33), y_ = (y1282.set (x5_1 : Int).toNat (⟨(rd_T33 y1282 x5_1).f0, (rd_T33 y1282 x5_1).f1, (rd_T33 y1282 x5_1).f2, wrap64 ((wrap64 ((wrap64 (x1_1 + 1)) + 1)) + 1), (rd_T33 y1282 x5_1).f4, (rd_T33 y1282 x5_1).f5⟩ : S33)) := ⟨_, rfl⟩
          replace H : ((some (y1283.set (x5_1 : Int).toNat (⟨(rd_T33 y1283 x5_1).f0, (rd_T33 y1283 x5_1).f1, (rd_T33 y1283 x5_1).f2, (rd_T33 y1283 x5_1).f3, wrap64 ((wrap64 ((wrap64 ((wrap64 (x1_1 + 1)) + 1)) + 1)) + 1), (rd_T33 y1283 x5_1).f5⟩ : S33) : List (S33))).bind fun y1284 => ((laws_markText.f k1 (wrap64 ((wrap64 ((wrap64 ((wrap64 ((wrap64 (x1_1 + 1)) + 1)) + 1)) + 1)) + 1))).bind fun t1285 => (laws_markPageS.l0 k1 (y1284.set (x5_1 : Int).toNat (⟨(rd_T33 y1284 x5_1).f0, (rd_T33 y1284 x5_1).f1, (rd_T33 y1284 x5_1).f2, (rd_T33 y1284 x5_1).f3, (rd_T33 y1284 x5_1).f4, t1285⟩ : S33)) (wrap64 ((wrap64 ((wrap64 ((wrap64 ((wrap64 ((wrap64 (x1_1 + 1)) + 1)) + 1)) + 1)) + 1)) + 1)) (wrap64 (x5_1 + 1))))) = some (r1, r2) := by first | (rw [hy1283]; with_reducible exact H) | (have H2_ := (Option.bind_some _ _).symm.trans H; rw [hy1283]; with_reducible exact H2_) | (have H2_ := (Option.bind_some _ _).symm.trans H; with_reducible exact H2_) | with_reducible exact H | (rw [hy1283]; exact H) | exact H
          have Ny1283 := Aside0.mk hy1283
          clear hy1283
          obtain ⟨y1284, hy1284⟩ : ∃ y_ : List (S33), y_ = (y1283.set (x5_1 : Int).toNat (⟨(rd_T33 y1283 x5_1).f0, (rd_T33 y1283 x5_1).f1, (rd_T33 y1283 x5_1).f2, (rd_T33 y1283 x5_1).f3, wrap64 ((wrap64 ((wrap64 ((wrap64 (x1_1 + 1)) + 1)) + 1)) + 1), (rd_T33 y1283 x5_1).f5⟩ : S33)) := ⟨_, rfl⟩
          replace H : ((laws_markText.f k1 (wrap64 ((wrap64 ((wrap64 ((wrap64 ((wrap64 (x1_1 + 1)) + 1)) + 1)) + 1)) + 1))).bind fun t1285 => (laws_markPageS.l0 k1 (y1284.set (x5_1 : Int).toNat (⟨(rd_T33 y1284 x5_1).f0, (rd_T33 y1284 x5_1).f1, (rd_T33 y1284 x5_1).f2, (rd_T33 y1284 x5_1).f3, (rd_T33 y1284 x5_1).f4, t1285⟩ : S33)) (wrap64 ((wrap64 ((wrap64 ((wrap64 ((wrap64 ((wrap64 (x1_1 + 1)) + 1)) + 1)) + 1)) + 1)) + 1)) (wrap64 (x5_1 + 1)))) = some (r1, r2) := by first | (rw [hy1284]; with_reducible exact H) | (have H2_ := (Option.bind_some _ _).symm.trans H; rw [hy1284]; with_reducible exact H2_) | (have H2_ := (Option.bind_some _ _).symm.trans H; with_reducible exact H2_) | with_reducible exact H | (rw [hy1284]; exact H) | exact H
          have Ny1284 := Aside0.mk hy1284
          clear hy1284
          replace H := Option.bind_eq_some_iff.mp H
          obtain ⟨t1285, A100, H⟩ := H
          replace H : (laws_markPageS.l0 k1 (y1284.set (x5_1 : Int).toNat (⟨(rd_T33 y1284 x5_1).f0, (rd_T33 y1284 x5_1).f1, (rd_T33 y1284 x5_1).f2, (rd_T33 y1284 x5_1).f3, (rd_T33 y1284 x5_1).f4, t1285⟩ : S33)) (wrap64 ((wrap64 ((wrap64 ((wrap64 ((wrap64 ((wrap64 (x1_1 + 1)) + 1)) + 1)) + 1)) + 1)) + 1)) (wrap64 (x5_1 + 1))) = some (r1, r2) := H
          have A10 := Aside0.mk A100
          clear A100
          obtain ⟨y1286, hy1286⟩ : ∃ y_ : List (S33), y_ = (y1284.set (x5_1 : Int).toNat (⟨(rd_T33 y1284 x5_1).f0, (rd_T33 y1284 x5_1).f1, (rd_T33 y1284 x5_1).f2, (rd_T33 y1284 x5_1).f3, (rd_T33 y1284 x5_1).f4, t1285⟩ : S33)) := ⟨_, rfl⟩
          replace H : (laws_markPageS.l0 k1 y1286 (wrap64 ((wrap64 ((wrap64 ((wrap64 ((wrap64 ((wrap64 (x1_1 + 1)) + 1)) + 1)) + 1)) + 1)) + 1)) (wrap64 (x5_1 + 1))) = some (r1, r2) := by first | (rw [hy1286]; with_reducible exact H) | (have H2_ := (Option.bind_some _ _).symm.trans H; rw [hy1286]; with_reducible exact H2_) | (have H2_ := (Option.bind_some _ _).symm.trans H; with_reducible exact H2_) | with_reducible exact H | (rw [hy1286]; exact H) | exact H
          have Ny1286 := Aside0.mk hy1286
          clear hy1286
          have H' := Aside0.mk H
          clear H
          obtain ⟨Ao12, co12, eo12⟩ := Kd.R_slice HO_0.out
          subst eo12
          have p5 : 0 ≤ (x5_1 : Int) := of_decide_eq_true (by first | (with_reducible assumption) | assumption)
          have q5 : (x5_1 : Int) < ((x0_1.length : Int) : Int) := of_decide_eq_true (by first | (with_reducible assumption) | assumption)
          obtain ⟨go5, co5, eo5, gb5, gl5, cl5, HG5⟩ := Kd.R_form HO_0.out (by omega)
          (first | cases eo5 | (injection eo5 with ea_ en_ ec_; (first | subst ea_ | (injection ea_ with ea_; subst ea_)); subst ec_; clear en_))
          have GB5 := Aside0.mk gb5
          have GG5 := Aside0.mk HG5
          clear gb5 gl5 HG5
          have HMgo5 := Aside0.mk (show (P0_ go5 ∨ w.heap.size ≤ go5) from (HO_0.out.1 _ rfl))
          obtain ⟨ce5, hcl5, hM5, hcc5, hfr5⟩ := Kd.R_elem HO_0.out z33 (x5_1 : Int) p5 q5
          obtain rfl := k33_openM hM5
          have hx5_0 : wr.cell? ⟨go5, (x5_1 : Int).toNat * 6, none⟩ = some (.int .i64 ((rd_T33 x0_1 x5_1).f0)) := hcc5 0 _ rfl
          have hx5_1 : wr.cell? ⟨go5, (x5_1 : Int).toNat * 6 + 1, none⟩ = some (.int .i64 ((rd_T33 x0_1 x5_1).f1)) := hcc5 1 _ rfl
          have hx5_2 : wr.cell? ⟨go5, (x5_1 : Int).toNat * 6 + 2, none⟩ = some (.int .i64 ((rd_T33 x0_1 x5_1).f2)) := hcc5 2 _ rfl
          have hx5_3 : wr.cell? ⟨go5, (x5_1 : Int).toNat * 6 + 3, none⟩ = some (.int .i64 ((rd_T33 x0_1 x5_1).f3)) := hcc5 3 _ rfl
          have hx5_4 : wr.cell? ⟨go5, (x5_1 : Int).toNat * 6 + 4, none⟩ = some (.int .i64 ((rd_T33 x0_1 x5_1).f4)) := hcc5 4 _ rfl
          have hx5_5 : wr.cell? ⟨go5, (x5_1 : Int).toNat * 6 + 5, none⟩ = some (.string ((rd_T33 x0_1 x5_1).f5)) := hcc5 5 _ rfl
          have hf5_0 : wr.frozen? ⟨go5, (x5_1 : Int).toNat * 6, none⟩ = false := hfr5 0
          have hf5_1 : wr.frozen? ⟨go5, (x5_1 : Int).toNat * 6 + 1, none⟩ = false := hfr5 1
          have hf5_2 : wr.frozen? ⟨go5, (x5_1 : Int).toNat * 6 + 2, none⟩ = false := hfr5 2
          have hf5_3 : wr.frozen? ⟨go5, (x5_1 : Int).toNat * 6 + 3, none⟩ = false := hfr5 3
          have hf5_4 : wr.frozen? ⟨go5, (x5_1 : Int).toNat * 6 + 4, none⟩ = false := hfr5 4
          have hf5_5 : wr.frozen? ⟨go5, (x5_1 : Int).toNat * 6 + 5, none⟩ = false := hfr5 5
          clear hcl5 hcc5 hfr5 hM5
          replace p5 := eq_true p5
          replace q5 := eq_true q5
          have HX13 := Aside0.mk (show Kd.R k33 33 wr w0.heap.size (fun k_ => (P0_ k_ ∨ w.heap.size ≤ k_)) (.slice (some ⟨go5, 0, none⟩) x0_1.length co12) x0_1 from (by (with_reducible repeat (first | apply Kd.R_alloc | apply Kd.R_drewN | apply Kd.R_drew)); exact HO_0.out))
          obtain ⟨ce13, hcl13, hM13, hcc13, hfr13⟩ := Kd.R_elem HX13.out z33 (x5_1 : Int) (of_decide_eq_true (by first | (with_reducible assumption) | assumption)) (by have h_ : (x5_1 : Int) < ((x0_1.length : Int) : Int) := of_decide_eq_true (by first | (with_reducible assumption) | assumption); first | exact h_ | (have e_ := (Kd.R_reads' HO_0.out).1; omega) | simpa using h_)
          obtain rfl := k33_openM hM13
          have HP13 := Kd.R_seg HX13.out (x5_1 : Int) (of_decide_eq_true (by first | (with_reducible assumption) | assumption)) (by have h_ : (x5_1 : Int) < ((x0_1.length : Int) : Int) := of_decide_eq_true (by first | (with_reducible assumption) | assumption); first | exact h_ | (have e_ := (Kd.R_reads' HO_0.out).1; omega) | simpa using h_) (seg := [.int .i64 x1_1]) (j := 0) hcl13 hcc13 (show 1 ≤ 6 from by decide) (x' := (⟨x1_1, (rd_T33 x0_1 x5_1).f1, (rd_T33 x0_1 x5_1).f2, (rd_T33 x0_1 x5_1).f3, (rd_T33 x0_1 x5_1).f4, (rd_T33 x0_1 x5_1).f5⟩ : S33)) (k33_mkM _ _ _ (⟨x1_1, (rd_T33 x0_1 x5_1).f1, (rd_T33 x0_1 x5_1).f2, (rd_T33 x0_1 x5_1).f3, (rd_T33 x0_1 x5_1).f4, (rd_T33 x0_1 x5_1).f5⟩ : S33) ) (fun _ hk => hk)
          have hx13_0 := hcc13 0 _ rfl
          (try simp only [show (k33).sz = 6 from rfl, Nat.mul_one, Nat.add_zero] at hx13_0)
          have hf13_0 := hfr13 0
          (try simp only [show (k33).sz = 6 from rfl, Nat.mul_one, Nat.add_zero] at hf13_0)
          clear hcl13 hcc13 hfr13 hM13
          go_wp2_with (first | ((with_reducible refine gate_store (t := 3) (p := 16) rfl ?_); refine store_event (t := 3) (p := 16) (v := ?vo_w14) (w1 := (wr.setCell ⟨go5, (x5_1 : Int).toNat * 6, none⟩ (.int .i64 x1_1))) ?hg ?ho ?hn ?hr ?_; (case ho => rfl); (case hg => rfl); (case hn => rfl); (case hr => first | (go_simp; done) | (go_simp; rfl)); intro w14 hw; have hg : wr.grownBy w14 (some go5) := (by rw [hw]; exact HP13.2); have hp_ : Kd.R k33 33 w14 w0.heap.size (fun k_ => (P0_ k_ ∨ w.heap.size ≤ k_)) (.slice (some ⟨go5, 0, none⟩) x0_1.length co12) y1280 := (by rw [hw, Ny1280.out]; exact HP13.1); clear HP13; have n0_ := Aside0.mk (hp_); have n1_ := Aside0.mk ((by rw [hw]; exact below_set (HB.out) GB5.out : Below w0.heap.size w0 w14)); have n2_ := Aside0.mk (Kept.of_grown (S := (fun k_ => P0_ k_)) hg (by repeat (first | (with_reducible first | exact HK.out | apply Kept.alloc | apply Kept.drewN | apply Kept.drew) | exact HK.out)) (fun k_ e_ => (HO_0.out.1 k_ e_))); clear HO_0; clear HB; clear HK; have HO_0 := n0_; have HB := n1_; have HK := n2_; clear n0_ n1_ n2_; clear hg hw hp_; have p6 : 0 ≤ (x5_1 : Int) := of_decide_eq_true (by first | (with_reducible assumption) | assumption); have q6 : (x5_1 : Int) < ((x0_1.length : Int) : Int) := of_decide_eq_true (by first | (with_reducible assumption) | assumption); obtain ⟨ce6, hcl6, hM6, hcc6, hfr6⟩ := Kd.R_elem HO_0.out z33 (x5_1 : Int) p6 q6; obtain rfl := k33_openM hM6; have hx6_0 : w14.cell? ⟨go5, (x5_1 : Int).toNat * 6, none⟩ = some (.int .i64 ((rd_T33 y1280 x5_1).f0)) := hcc6 0 _ rfl; have hx6_1 : w14.cell? ⟨go5, (x5_1 : Int).toNat * 6 + 1, none⟩ = some (.int .i64 ((rd_T33 y1280 x5_1).f1)) := hcc6 1 _ rfl; have hx6_2 : w14.cell? ⟨go5, (x5_1 : Int).toNat * 6 + 2, none⟩ = some (.int .i64 ((rd_T33 y1280 x5_1).f2)) := hcc6 2 _ rfl; have hx6_3 : w14.cell? ⟨go5, (x5_1 : Int).toNat * 6 + 3, none⟩ = some (.int .i64 ((rd_T33 y1280 x5_1).f3)) := hcc6 3 _ rfl; have hx6_4 : w14.cell? ⟨go5, (x5_1 : Int).toNat * 6 + 4, none⟩ = some (.int .i64 ((rd_T33 y1280 x5_1).f4)) := hcc6 4 _ rfl; have hx6_5 : w14.cell? ⟨go5, (x5_1 : Int).toNat * 6 + 5, none⟩ = some (.string ((rd_T33 y1280 x5_1).f5)) := hcc6 5 _ rfl; have hf6_0 : w14.frozen? ⟨go5, (x5_1 : Int).toNat * 6, none⟩ = false := hfr6 0; have hf6_1 : w14.frozen? ⟨go5, (x5_1 : Int).toNat * 6 + 1, none⟩ = false := hfr6 1; have hf6_2 : w14.frozen? ⟨go5, (x5_1 : Int).toNat * 6 + 2, none⟩ = false := hfr6 2; have hf6_3 : w14.frozen? ⟨go5, (x5_1 : Int).toNat * 6 + 3, none⟩ = false := hfr6 3; have hf6_4 : w14.frozen? ⟨go5, (x5_1 : Int).toNat * 6 + 4, none⟩ = false := hfr6 4; have hf6_5 : w14.frozen? ⟨go5, (x5_1 : Int).toNat * 6 + 5, none⟩ = false := hfr6 5; clear hcl6 hcc6 hfr6 hM6; replace p6 := eq_true p6; replace q6 := eq_true q6; have HX15 := Aside0.mk (show Kd.R k33 33 w14 w0.heap.size (fun k_ => (P0_ k_ ∨ w.heap.size ≤ k_)) (.slice (some ⟨go5, 0, none⟩) x0_1.length co12) y1280 from (by (with_reducible repeat (first | apply Kd.R_alloc | apply Kd.R_drewN | apply Kd.R_drew)); exact HO_0.out)); obtain ⟨ce15, hcl15, hM15, hcc15, hfr15⟩ := Kd.R_elem HX15.out z33 (x5_1 : Int) (of_decide_eq_true (by first | (with_reducible assumption) | assumption)) (by have h_ : (x5_1 : Int) < ((x0_1.length : Int) : Int) := of_decide_eq_true (by first | (with_reducible assumption) | assumption); first | exact h_ | (have e_ := (Kd.R_reads' HO_0.out).1; omega) | simpa using h_); obtain rfl := k33_openM hM15; have HP15 := Kd.R_seg HX15.out (x5_1 : Int) (of_decide_eq_true (by first | (with_reducible assumption) | assumption)) (by have h_ : (x5_1 : Int) < ((x0_1.length : Int) : Int) := of_decide_eq_true (by first | (with_reducible assumption) | assumption); first | exact h_ | (have e_ := (Kd.R_reads' HO_0.out).1; omega) | simpa using h_) (seg := [.int .i64 (wrap64 (x1_1 + 1))]) (j := 1) hcl15 hcc15 (show 2 ≤ 6 from by decide) (x' := (⟨(rd_T33 y1280 x5_1).f0, wrap64 (x1_1 + 1), (rd_T33 y1280 x5_1).f2, (rd_T33 y1280 x5_1).f3, (rd_T33 y1280 x5_1).f4, (rd_T33 y1280 x5_1).f5⟩ : S33)) (k33_mkM _ _ _ (⟨(rd_T33 y1280 x5_1).f0, wrap64 (x1_1 + 1), (rd_T33 y1280 x5_1).f2, (rd_T33 y1280 x5_1).f3, (rd_T33 y1280 x5_1).f4, (rd_T33 y1280 x5_1).f5⟩ : S33) ) (fun _ hk => hk); have hx15_1 := hcc15 1 _ rfl; (try simp only [show (k33).sz = 6 from rfl, Nat.mul_one, Nat.add_zero] at hx15_1); have hf15_1 := hfr15 1; (try simp only [show (k33).sz = 6 from rfl, Nat.mul_one, Nat.add_zero] at hf15_1); clear hcl15 hcc15 hfr15 hM15) | ((with_reducible refine gate_store (t := 3) (p := 23) rfl ?_); refine store_event (t := 3) (p := 23) (v := ?vo_w16) (w1 := (w14.setCell ⟨go5, (x5_1 : Int).toNat * 6 + 1, none⟩ (.int .i64 (wrap64 (x1_1 + 1))))) ?hg ?ho ?hn ?hr ?_; (case ho => rfl); (case hg => rfl); (case hn => rfl); (case hr => first | (go_simp; done) | (go_simp; rfl)); intro w16 hw; have hg : w14.grownBy w16 (some go5) := (by rw [hw]; exact HP15.2); have hp_ : Kd.R k33 33 w16 w0.heap.size (fun k_ => (P0_ k_ ∨ w.heap.size ≤ k_)) (.slice (some ⟨go5, 0, none⟩) x0_1.length co12) y1281 := (by rw [hw, Ny1281.out]; exact HP15.1); clear HP15; have n0_ := Aside0.mk (hp_); have n1_ := Aside0.mk ((by rw [hw]; exact below_set (HB.out) GB5.out : Below w0.heap.size w0 w16)); have n2_ := Aside0.mk (Kept.of_grown (S := (fun k_ => P0_ k_)) hg (by repeat (first | (with_reducible first | exact HK.out | apply Kept.alloc | apply Kept.drewN | apply Kept.drew) | exact HK.out)) (fun k_ e_ => (HO_0.out.1 k_ e_))); clear HO_0; clear HB; clear HK; have HO_0 := n0_; have HB := n1_; have HK := n2_; clear n0_ n1_ n2_; clear hg hw hp_; have p7 : 0 ≤ (x5_1 : Int) := of_decide_eq_true (by first | (with_reducible assumption) | assumption); have q7 : (x5_1 : Int) < ((x0_1.length : Int) : Int) := of_decide_eq_true (by first | (with_reducible assumption) | assumption); obtain ⟨ce7, hcl7, hM7, hcc7, hfr7⟩ := Kd.R_elem HO_0.out z33 (x5_1 : Int) p7 q7; obtain rfl := k33_openM hM7; have hx7_0 : w16.cell? ⟨go5, (x5_1 : Int).toNat * 6, none⟩ = some (.int .i64 ((rd_T33 y1281 x5_1).f0)) := hcc7 0 _ rfl; have hx7_1 : w16.cell? ⟨go5, (x5_1 : Int).toNat * 6 + 1, none⟩ = some (.int .i64 ((rd_T33 y1281 x5_1).f1)) := hcc7 1 _ rfl; have hx7_2 : w16.cell? ⟨go5, (x5_1 : Int).toNat * 6 + 2, none⟩ = some (.int .i64 ((rd_T33 y1281 x5_1).f2)) := hcc7 2 _ rfl; have hx7_3 : w16.cell? ⟨go5, (x5_1 : Int).toNat * 6 + 3, none⟩ = some (.int .i64 ((rd_T33 y1281 x5_1).f3)) := hcc7 3 _ rfl; have hx7_4 : w16.cell? ⟨go5, (x5_1 : Int).toNat * 6 + 4, none⟩ = some (.int .i64 ((rd_T33 y1281 x5_1).f4)) := hcc7 4 _ rfl; have hx7_5 : w16.cell? ⟨go5, (x5_1 : Int).toNat * 6 + 5, none⟩ = some (.string ((rd_T33 y1281 x5_1).f5)) := hcc7 5 _ rfl; have hf7_0 : w16.frozen? ⟨go5, (x5_1 : Int).toNat * 6, none⟩ = false := hfr7 0; have hf7_1 : w16.frozen? ⟨go5, (x5_1 : Int).toNat * 6 + 1, none⟩ = false := hfr7 1; have hf7_2 : w16.frozen? ⟨go5, (x5_1 : Int).toNat * 6 + 2, none⟩ = false := hfr7 2; have hf7_3 : w16.frozen? ⟨go5, (x5_1 : Int).toNat * 6 + 3, none⟩ = false := hfr7 3; have hf7_4 : w16.frozen? ⟨go5, (x5_1 : Int).toNat * 6 + 4, none⟩ = false := hfr7 4; have hf7_5 : w16.frozen? ⟨go5, (x5_1 : Int).toNat * 6 + 5, none⟩ = false := hfr7 5; clear hcl7 hcc7 hfr7 hM7; replace p7 := eq_true p7; replace q7 := eq_true q7; have HX17 := Aside0.mk (show Kd.R k33 33 w16 w0.heap.size (fun k_ => (P0_ k_ ∨ w.heap.size ≤ k_)) (.slice (some ⟨go5, 0, none⟩) x0_1.length co12) y1281 from (by (with_reducible repeat (first | apply Kd.R_alloc | apply Kd.R_drewN | apply Kd.R_drew)); exact HO_0.out)); obtain ⟨ce17, hcl17, hM17, hcc17, hfr17⟩ := Kd.R_elem HX17.out z33 (x5_1 : Int) (of_decide_eq_true (by first | (with_reducible assumption) | assumption)) (by have h_ : (x5_1 : Int) < ((x0_1.length : Int) : Int) := of_decide_eq_true (by first | (with_reducible assumption) | assumption); first | exact h_ | (have e_ := (Kd.R_reads' HO_0.out).1; omega) | simpa using h_); obtain rfl := k33_openM hM17; have HP17 := Kd.R_seg HX17.out (x5_1 : Int) (of_decide_eq_true (by first | (with_reducible assumption) | assumption)) (by have h_ : (x5_1 : Int) < ((x0_1.length : Int) : Int) := of_decide_eq_true (by first | (with_reducible assumption) | assumption); first | exact h_ | (have e_ := (Kd.R_reads' HO_0.out).1; omega) | simpa using h_) (seg := [.int .i64 (wrap64 ((wrap64 (x1_1 + 1)) + 1))]) (j := 2) hcl17 hcc17 (show 3 ≤ 6 from by decide) (x' := (⟨(rd_T33 y1281 x5_1).f0, (rd_T33 y1281 x5_1).f1, wrap64 ((wrap64 (x1_1 + 1)) + 1), (rd_T33 y1281 x5_1).f3, (rd_T33 y1281 x5_1).f4, (rd_T33 y1281 x5_1).f5⟩ : S33)) (k33_mkM _ _ _ (⟨(rd_T33 y1281 x5_1).f0, (rd_T33 y1281 x5_1).f1, wrap64 ((wrap64 (x1_1 + 1)) + 1), (rd_T33 y1281 x5_1).f3, (rd_T33 y1281 x5_1).f4, (rd_T33 y1281 x5_1).f5⟩ : S33) ) (fun _ hk => hk); have hx17_2 := hcc17 2 _ rfl; (try simp only [show (k33).sz = 6 from rfl, Nat.mul_one, Nat.add_zero] at hx17_2); have hf17_2 := hfr17 2; (try simp only [show (k33).sz = 6 from rfl, Nat.mul_one, Nat.add_zero] at hf17_2); clear hcl17 hcc17 hfr17 hM17) | ((with_reducible refine gate_store (t := 3) (p := 30) rfl ?_); refine store_event (t := 3) (p := 30) (v := ?vo_w18) (w1 := (w16.setCell ⟨go5, (x5_1 : Int).toNat * 6 + 2, none⟩ (.int .i64 (wrap64 ((wrap64 (x1_1 + 1)) + 1))))) ?hg ?ho ?hn ?hr ?_; (case ho => rfl); (case hg => rfl); (case hn => rfl); (case hr => first | (go_simp; done) | (go_simp; rfl)); intro w18 hw; have hg : w16.grownBy w18 (some go5) := (by rw [hw]; exact HP17.2); have hp_ : Kd.R k33 33 w18 w0.heap.size (fun k_ => (P0_ k_ ∨ w.heap.size ≤ k_)) (.slice (some ⟨go5, 0, none⟩) x0_1.length co12) y1282 := (by rw [hw, Ny1282.out]; exact HP17.1); clear HP17; have n0_ := Aside0.mk (hp_); have n1_ := Aside0.mk ((by rw [hw]; exact below_set (HB.out) GB5.out : Below w0.heap.size w0 w18)); have n2_ := Aside0.mk (Kept.of_grown (S := (fun k_ => P0_ k_)) hg (by repeat (first | (with_reducible first | exact HK.out | apply Kept.alloc | apply Kept.drewN | apply Kept.drew) | exact HK.out)) (fun k_ e_ => (HO_0.out.1 k_ e_))); clear HO_0; clear HB; clear HK; have HO_0 := n0_; have HB := n1_; have HK := n2_; clear n0_ n1_ n2_; clear hg hw hp_; have p8 : 0 ≤ (x5_1 : Int) := of_decide_eq_true (by first | (with_reducible assumption) | assumption); have q8 : (x5_1 : Int) < ((x0_1.length : Int) : Int) := of_decide_eq_true (by first | (with_reducible assumption) | assumption); obtain ⟨ce8, hcl8, hM8, hcc8, hfr8⟩ := Kd.R_elem HO_0.out z33 (x5_1 : Int) p8 q8; obtain rfl := k33_openM hM8; have hx8_0 : w18.cell? ⟨go5, (x5_1 : Int).toNat * 6, none⟩ = some (.int .i64 ((rd_T33 y1282 x5_1).f0)) := hcc8 0 _ rfl; have hx8_1 : w18.cell? ⟨go5, (x5_1 : Int).toNat * 6 + 1, none⟩ = some (.int .i64 ((rd_T33 y1282 x5_1).f1)) := hcc8 1 _ rfl; have hx8_2 : w18.cell? ⟨go5, (x5_1 : Int).toNat * 6 + 2, none⟩ = some (.int .i64 ((rd_T33 y1282 x5_1).f2)) := hcc8 2 _ rfl; have hx8_3 : w18.cell? ⟨go5, (x5_1 : Int).toNat * 6 + 3, none⟩ = some (.int .i64 ((rd_T33 y1282 x5_1).f3)) := hcc8 3 _ rfl; have hx8_4 : w18.cell? ⟨go5, (x5_1 : Int).toNat * 6 + 4, none⟩ = some (.int .i64 ((rd_T33 y1282 x5_1).f4)) := hcc8 4 _ rfl; have hx8_5 : w18.cell? ⟨go5, (x5_1 : Int).toNat * 6 + 5, none⟩ = some (.string ((rd_T33 y1282 x5_1).f5)) := hcc8 5 _ rfl; have hf8_0 : w18.frozen? ⟨go5, (x5_1 : Int).toNat * 6, none⟩ = false := hfr8 0; have hf8_1 : w18.frozen? ⟨go5, (x5_1 : Int).toNat * 6 + 1, none⟩ = false := hfr8 1; have hf8_2 : w18.frozen? ⟨go5, (x5_1 : Int).toNat * 6 + 2, none⟩ = false := hfr8 2; have hf8_3 : w18.frozen? ⟨go5, (x5_1 : Int).toNat * 6 + 3, none⟩ = false := hfr8 3; have hf8_4 : w18.frozen? ⟨go5, (x5_1 : Int).toNat * 6 + 4, none⟩ = false := hfr8 4; have hf8_5 : w18.frozen? ⟨go5, (x5_1 : Int).toNat * 6 + 5, none⟩ = false := hfr8 5; clear hcl8 hcc8 hfr8 hM8; replace p8 := eq_true p8; replace q8 := eq_true q8; have HX19 := Aside0.mk (show Kd.R k33 33 w18 w0.heap.size (fun k_ => (P0_ k_ ∨ w.heap.size ≤ k_)) (.slice (some ⟨go5, 0, none⟩) x0_1.length co12) y1282 from (by (with_reducible repeat (first | apply Kd.R_alloc | apply Kd.R_drewN | apply Kd.R_drew)); exact HO_0.out)); obtain ⟨ce19, hcl19, hM19, hcc19, hfr19⟩ := Kd.R_elem HX19.out z33 (x5_1 : Int) (of_decide_eq_true (by first | (with_reducible assumption) | assumption)) (by have h_ : (x5_1 : Int) < ((x0_1.length : Int) : Int) := of_decide_eq_true (by first | (with_reducible assumption) | assumption); first | exact h_ | (have e_ := (Kd.R_reads' HO_0.out).1; omega) | simpa using h_); obtain rfl := k33_openM hM19; have HP19 := Kd.R_seg HX19.out (x5_1 : Int) (of_decide_eq_true (by first | (with_reducible assumption) | assumption)) (by have h_ : (x5_1 : Int) < ((x0_1.length : Int) : Int) := of_decide_eq_true (by first | (with_reducible assumption) | assumption); first | exact h_ | (have e_ := (Kd.R_reads' HO_0.out).1; omega) | simpa using h_) (seg := [.int .i64 (wrap64 ((wrap64 ((wrap64 (x1_1 + 1)) + 1)) + 1))]) (j := 3) hcl19 hcc19 (show 4 ≤ 6 from by decide) (x' := (⟨(rd_T33 y1282 x5_1).f0, (rd_T33 y1282 x5_1).f1, (rd_T33 y1282 x5_1).f2, wrap64 ((wrap64 ((wrap64 (x1_1 + 1)) + 1)) + 1), (rd_T33 y1282 x5_1).f4, (rd_T33 y1282 x5_1).f5⟩ : S33)) (k33_mkM _ _ _ (⟨(rd_T33 y1282 x5_1).f0, (rd_T33 y1282 x5_1).f1, (rd_T33 y1282 x5_1).f2, wrap64 ((wrap64 ((wrap64 (x1_1 + 1)) + 1)) + 1), (rd_T33 y1282 x5_1).f4, (rd_T33 y1282 x5_1).f5⟩ : S33) ) (fun _ hk => hk); have hx19_3 := hcc19 3 _ rfl; (try simp only [show (k33).sz = 6 from rfl, Nat.mul_one, Nat.add_zero] at hx19_3); have hf19_3 := hfr19 3; (try simp only [show (k33).sz = 6 from rfl, Nat.mul_one, Nat.add_zero] at hf19_3); clear hcl19 hcc19 hfr19 hM19) | ((with_reducible refine gate_store (t := 3) (p := 37) rfl ?_); refine store_event (t := 3) (p := 37) (v := ?vo_w20) (w1 := (w18.setCell ⟨go5, (x5_1 : Int).toNat * 6 + 3, none⟩ (.int .i64 (wrap64 ((wrap64 ((wrap64 (x1_1 + 1)) + 1)) + 1))))) ?hg ?ho ?hn ?hr ?_; (case ho => rfl); (case hg => rfl); (case hn => rfl); (case hr => first | (go_simp; done) | (go_simp; rfl)); intro w20 hw; have hg : w18.grownBy w20 (some go5) := (by rw [hw]; exact HP19.2); have hp_ : Kd.R k33 33 w20 w0.heap.size (fun k_ => (P0_ k_ ∨ w.heap.size ≤ k_)) (.slice (some ⟨go5, 0, none⟩) x0_1.length co12) y1283 := (by rw [hw, Ny1283.out]; exact HP19.1); clear HP19; have n0_ := Aside0.mk (hp_); have n1_ := Aside0.mk ((by rw [hw]; exact below_set (HB.out) GB5.out : Below w0.heap.size w0 w20)); have n2_ := Aside0.mk (Kept.of_grown (S := (fun k_ => P0_ k_)) hg (by repeat (first | (with_reducible first | exact HK.out | apply Kept.alloc | apply Kept.drewN | apply Kept.drew) | exact HK.out)) (fun k_ e_ => (HO_0.out.1 k_ e_))); clear HO_0; clear HB; clear HK; have HO_0 := n0_; have HB := n1_; have HK := n2_; clear n0_ n1_ n2_; clear hg hw hp_; have p9 : 0 ≤ (x5_1 : Int) := of_decide_eq_true (by first | (with_reducible assumption) | assumption); have q9 : (x5_1 : Int) < ((x0_1.length : Int) : Int) := of_decide_eq_true (by first | (with_reducible assumption) | assumption); obtain ⟨ce9, hcl9, hM9, hcc9, hfr9⟩ := Kd.R_elem HO_0.out z33 (x5_1 : Int) p9 q9; obtain rfl := k33_openM hM9; have hx9_0 : w20.cell? ⟨go5, (x5_1 : Int).toNat * 6, none⟩ = some (.int .i64 ((rd_T33 y1283 x5_1).f0)) := hcc9 0 _ rfl; have hx9_1 : w20.cell? ⟨go5, (x5_1 : Int).toNat * 6 + 1, none⟩ = some (.int .i64 ((rd_T33 y1283 x5_1).f1)) := hcc9 1 _ rfl; have hx9_2 : w20.cell? ⟨go5, (x5_1 : Int).toNat * 6 + 2, none⟩ = some (.int .i64 ((rd_T33 y1283 x5_1).f2)) := hcc9 2 _ rfl; have hx9_3 : w20.cell? ⟨go5, (x5_1 : Int).toNat * 6 + 3, none⟩ = some (.int .i64 ((rd_T33 y1283 x5_1).f3)) := hcc9 3 _ rfl; have hx9_4 : w20.cell? ⟨go5, (x5_1 : Int).toNat * 6 + 4, none⟩ = some (.int .i64 ((rd_T33 y1283 x5_1).f4)) := hcc9 4 _ rfl; have hx9_5 : w20.cell? ⟨go5, (x5_1 : Int).toNat * 6 + 5, none⟩ = some (.string ((rd_T33 y1283 x5_1).f5)) := hcc9 5 _ rfl; have hf9_0 : w20.frozen? ⟨go5, (x5_1 : Int).toNat * 6, none⟩ = false := hfr9 0; have hf9_1 : w20.frozen? ⟨go5, (x5_1 : Int).toNat * 6 + 1, none⟩ = false := hfr9 1; have hf9_2 : w20.frozen? ⟨go5, (x5_1 : Int).toNat * 6 + 2, none⟩ = false := hfr9 2; have hf9_3 : w20.frozen? ⟨go5, (x5_1 : Int).toNat * 6 + 3, none⟩ = false := hfr9 3; have hf9_4 : w20.frozen? ⟨go5, (x5_1 : Int).toNat * 6 + 4, none⟩ = false := hfr9 4; have hf9_5 : w20.frozen? ⟨go5, (x5_1 : Int).toNat * 6 + 5, none⟩ = false := hfr9 5; clear hcl9 hcc9 hfr9 hM9; replace p9 := eq_true p9; replace q9 := eq_true q9; have HX21 := Aside0.mk (show Kd.R k33 33 w20 w0.heap.size (fun k_ => (P0_ k_ ∨ w.heap.size ≤ k_)) (.slice (some ⟨go5, 0, none⟩) x0_1.length co12) y1283 from (by (with_reducible repeat (first | apply Kd.R_alloc | apply Kd.R_drewN | apply Kd.R_drew)); exact HO_0.out)); obtain ⟨ce21, hcl21, hM21, hcc21, hfr21⟩ := Kd.R_elem HX21.out z33 (x5_1 : Int) (of_decide_eq_true (by first | (with_reducible assumption) | assumption)) (by have h_ : (x5_1 : Int) < ((x0_1.length : Int) : Int) := of_decide_eq_true (by first | (with_reducible assumption) | assumption); first | exact h_ | (have e_ := (Kd.R_reads' HO_0.out).1; omega) | simpa using h_); obtain rfl := k33_openM hM21; have HP21 := Kd.R_seg HX21.out (x5_1 : Int) (of_decide_eq_true (by first | (with_reducible assumption) | assumption)) (by have h_ : (x5_1 : Int) < ((x0_1.length : Int) : Int) := of_decide_eq_true (by first | (with_reducible assumption) | assumption); first | exact h_ | (have e_ := (Kd.R_reads' HO_0.out).1; omega) | simpa using h_) (seg := [.int .i64 (wrap64 ((wrap64 ((wrap64 ((wrap64 (x1_1 + 1)) + 1)) + 1)) + 1))]) (j := 4) hcl21 hcc21 (show 5 ≤ 6 from by decide) (x' := (⟨(rd_T33 y1283 x5_1).f0, (rd_T33 y1283 x5_1).f1, (rd_T33 y1283 x5_1).f2, (rd_T33 y1283 x5_1).f3, wrap64 ((wrap64 ((wrap64 ((wrap64 (x1_1 + 1)) + 1)) + 1)) + 1), (rd_T33 y1283 x5_1).f5⟩ : S33)) (k33_mkM _ _ _ (⟨(rd_T33 y1283 x5_1).f0, (rd_T33 y1283 x5_1).f1, (rd_T33 y1283 x5_1).f2, (rd_T33 y1283 x5_1).f3, wrap64 ((wrap64 ((wrap64 ((wrap64 (x1_1 + 1)) + 1)) + 1)) + 1), (rd_T33 y1283 x5_1).f5⟩ : S33) ) (fun _ hk => hk); have hx21_4 := hcc21 4 _ rfl; (try simp only [show (k33).sz = 6 from rfl, Nat.mul_one, Nat.add_zero] at hx21_4); have hf21_4 := hfr21 4; (try simp only [show (k33).sz = 6 from rfl, Nat.mul_one, Nat.add_zero] at hf21_4); clear hcl21 hcc21 hfr21 hM21) | ((with_reducible refine gate_store (t := 3) (p := 44) rfl ?_); refine store_event (t := 3) (p := 44) (v := ?vo_w22) (w1 := (w20.setCell ⟨go5, (x5_1 : Int).toNat * 6 + 4, none⟩ (.int .i64 (wrap64 ((wrap64 ((wrap64 ((wrap64 (x1_1 + 1)) + 1)) + 1)) + 1))))) ?hg ?ho ?hn ?hr ?_; (case ho => rfl); (case hg => rfl); (case hn => rfl); (case hr => first | (go_simp; done) | (go_simp; rfl)); intro w22 hw; have hg : w20.grownBy w22 (some go5) := (by rw [hw]; exact HP21.2); have hp_ : Kd.R k33 33 w22 w0.heap.size (fun k_ => (P0_ k_ ∨ w.heap.size ≤ k_)) (.slice (some ⟨go5, 0, none⟩) x0_1.length co12) y1284 := (by rw [hw, Ny1284.out]; exact HP21.1); clear HP21; have n0_ := Aside0.mk (hp_); have n1_ := Aside0.mk ((by rw [hw]; exact below_set (HB.out) GB5.out : Below w0.heap.size w0 w22)); have n2_ := Aside0.mk (Kept.of_grown (S := (fun k_ => P0_ k_)) hg (by repeat (first | (with_reducible first | exact HK.out | apply Kept.alloc | apply Kept.drewN | apply Kept.drew) | exact HK.out)) (fun k_ e_ => (HO_0.out.1 k_ e_))); clear HO_0; clear HB; clear HK; have HO_0 := n0_; have HB := n1_; have HK := n2_; clear n0_ n1_ n2_; clear hg hw hp_) | ((with_reducible refine gate_callee (f := 126) rfl ?_); refine goesL_ (some 50) rfl rfl Try.func126 (by kernel_rfl) rfl #[.int .i64 (wrap64 ((wrap64 ((wrap64 ((wrap64 ((wrap64 (x1_1 + 1)) + 1)) + 1)) + 1)) + 1))] rfl (by (try simp only [List.map_toArray, List.map_cons, List.map_nil]); first | done | rfl | (simp only [List.length_drop, List.length_take]; rfl)) ?_; (with_reducible refine (laws_markText.calls k1 (wrap64 ((wrap64 ((wrap64 ((wrap64 ((wrap64 (x1_1 + 1)) + 1)) + 1)) + 1)) + 1)) t1285 _ A10.out).mono ?_); rintro e w23 ⟨rfl, hb⟩; refine ⟨_, rfl, ?_⟩; have n0_ := Aside0.mk (Kd.R_below (by (with_reducible repeat (first | apply Kd.R_alloc | apply Kd.R_drewN | apply Kd.R_drew)); exact HO_0.out) hb); have n1_ := Aside0.mk (Kept.below (S := (fun k_ => P0_ k_)) (by repeat (first | (with_reducible first | exact HK.out | apply Kept.alloc | apply Kept.drewN | apply Kept.drew) | exact HK.out)) hb); have n2_ := Aside0.mk (below_step (by repeat (first | (with_reducible first | exact HB.out | apply below_alloc | apply pw_below_drewN | apply below_drew1) | exact HB.out)) hb); clear HO_0; clear HK; clear HB; have HO_0 := n0_; have HK := n1_; have HB := n2_; clear n0_ n1_ n2_; (try clear hb); (try clear hb2); (try clear hk); (try clear hi); have p11 : 0 ≤ (x5_1 : Int) := of_decide_eq_true (by first | (with_reducible assumption) | assumption); have q11 : (x5_1 : Int) < ((x0_1.length : Int) : Int) := of_decide_eq_true (by first | (with_reducible assumption) | assumption); obtain ⟨ce11, hcl11, hM11, hcc11, hfr11⟩ := Kd.R_elem HO_0.out z33 (x5_1 : Int) p11 q11; obtain rfl := k33_openM hM11; have hx11_0 : w23.cell? ⟨go5, (x5_1 : Int).toNat * 6, none⟩ = some (.int .i64 ((rd_T33 y1284 x5_1).f0)) := hcc11 0 _ rfl; have hx11_1 : w23.cell? ⟨go5, (x5_1 : Int).toNat * 6 + 1, none⟩ = some (.int .i64 ((rd_T33 y1284 x5_1).f1)) := hcc11 1 _ rfl; have hx11_2 : w23.cell? ⟨go5, (x5_1 : Int).toNat * 6 + 2, none⟩ = some (.int .i64 ((rd_T33 y1284 x5_1).f2)) := hcc11 2 _ rfl; have hx11_3 : w23.cell? ⟨go5, (x5_1 : Int).toNat * 6 + 3, none⟩ = some (.int .i64 ((rd_T33 y1284 x5_1).f3)) := hcc11 3 _ rfl; have hx11_4 : w23.cell? ⟨go5, (x5_1 : Int).toNat * 6 + 4, none⟩ = some (.int .i64 ((rd_T33 y1284 x5_1).f4)) := hcc11 4 _ rfl; have hx11_5 : w23.cell? ⟨go5, (x5_1 : Int).toNat * 6 + 5, none⟩ = some (.string ((rd_T33 y1284 x5_1).f5)) := hcc11 5 _ rfl; have hf11_0 : w23.frozen? ⟨go5, (x5_1 : Int).toNat * 6, none⟩ = false := hfr11 0; have hf11_1 : w23.frozen? ⟨go5, (x5_1 : Int).toNat * 6 + 1, none⟩ = false := hfr11 1; have hf11_2 : w23.frozen? ⟨go5, (x5_1 : Int).toNat * 6 + 2, none⟩ = false := hfr11 2; have hf11_3 : w23.frozen? ⟨go5, (x5_1 : Int).toNat * 6 + 3, none⟩ = false := hfr11 3; have hf11_4 : w23.frozen? ⟨go5, (x5_1 : Int).toNat * 6 + 4, none⟩ = false := hfr11 4; have hf11_5 : w23.frozen? ⟨go5, (x5_1 : Int).toNat * 6 + 5, none⟩ = false := hfr11 5; clear hcl11 hcc11 hfr11 hM11; replace p11 := eq_true p11; replace q11 := eq_true q11; have HX24 := Aside0.mk (show Kd.R k33 33 w23 w0.heap.size (fun k_ => (P0_ k_ ∨ w.heap.size ≤ k_)) (.slice (some ⟨go5, 0, none⟩) x0_1.length co12) y1284 from (by (with_reducible repeat (first | apply Kd.R_alloc | apply Kd.R_drewN | apply Kd.R_drew)); exact HO_0.out)); obtain ⟨ce24, hcl24, hM24, hcc24, hfr24⟩ := Kd.R_elem HX24.out z33 (x5_1 : Int) (of_decide_eq_true (by first | (with_reducible assumption) | assumption)) (by have h_ : (x5_1 : Int) < ((x0_1.length : Int) : Int) := of_decide_eq_true (by first | (with_reducible assumption) | assumption); first | exact h_ | (have e_ := (Kd.R_reads' HO_0.out).1; omega) | simpa using h_); obtain rfl := k33_openM hM24; have HP24 := Kd.R_seg HX24.out (x5_1 : Int) (of_decide_eq_true (by first | (with_reducible assumption) | assumption)) (by have h_ : (x5_1 : Int) < ((x0_1.length : Int) : Int) := of_decide_eq_true (by first | (with_reducible assumption) | assumption); first | exact h_ | (have e_ := (Kd.R_reads' HO_0.out).1; omega) | simpa using h_) (seg := [.string t1285]) (j := 5) hcl24 hcc24 (show 6 ≤ 6 from by decide) (x' := (⟨(rd_T33 y1284 x5_1).f0, (rd_T33 y1284 x5_1).f1, (rd_T33 y1284 x5_1).f2, (rd_T33 y1284 x5_1).f3, (rd_T33 y1284 x5_1).f4, t1285⟩ : S33)) (k33_mkM _ _ _ (⟨(rd_T33 y1284 x5_1).f0, (rd_T33 y1284 x5_1).f1, (rd_T33 y1284 x5_1).f2, (rd_T33 y1284 x5_1).f3, (rd_T33 y1284 x5_1).f4, t1285⟩ : S33) ) (fun _ hk => hk); have hx24_5 := hcc24 5 _ rfl; (try simp only [show (k33).sz = 6 from rfl, Nat.mul_one, Nat.add_zero] at hx24_5); have hf24_5 := hfr24 5; (try simp only [show (k33).sz = 6 from rfl, Nat.mul_one, Nat.add_zero] at hf24_5); clear hcl24 hcc24 hfr24 hM24) | ((with_reducible refine gate_store (t := 9) (p := 52) rfl ?_); refine store_event (t := 9) (p := 52) (v := ?vo_w25) (w1 := (w23.setCell ⟨go5, (x5_1 : Int).toNat * 6 + 5, none⟩ (.string t1285))) ?hg ?ho ?hn ?hr ?_; (case ho => rfl); (case hg => rfl); (case hn => rfl); (case hr => first | (go_simp; done) | (go_simp; rfl)); intro w25 hw; have hg : w23.grownBy w25 (some go5) := (by rw [hw]; exact HP24.2); have hp_ : Kd.R k33 33 w25 w0.heap.size (fun k_ => (P0_ k_ ∨ w.heap.size ≤ k_)) (.slice (some ⟨go5, 0, none⟩) x0_1.length co12) y1286 := (by rw [hw, Ny1286.out]; exact HP24.1); clear HP24; have n0_ := Aside0.mk (hp_); have n1_ := Aside0.mk ((by rw [hw]; exact below_set (HB.out) GB5.out : Below w0.heap.size w0 w25)); have n2_ := Aside0.mk (Kept.of_grown (S := (fun k_ => P0_ k_)) hg (by repeat (first | (with_reducible first | exact HK.out | apply Kept.alloc | apply Kept.drewN | apply Kept.drew) | exact HK.out)) (fun k_ e_ => (HO_0.out.1 k_ e_))); clear HO_0; clear HB; clear HK; have HO_0 := n0_; have HB := n1_; have HK := n2_; clear n0_ n1_ n2_; clear hg hw hp_))
          go_roundg k1
          case measure => have := HK1.out; omega
          case rel => exact ⟨(y1286), (wrap64 ((wrap64 ((wrap64 ((wrap64 ((wrap64 ((wrap64 (x1_1 + 1)) + 1)) + 1)) + 1)) + 1)) + 1)), (wrap64 (x5_1 + 1)), (by first | rfl | (simp; done) | (simp [*]; done)), (by first | rfl | (simp; done) | (simp [*]; done)), H', ⟨by have := HK1.out; omega⟩, ⟨by (with_reducible repeat (first | apply Kd.R_alloc | apply Kd.R_drewN | apply Kd.R_drew)); exact HO_0.out⟩, ⟨by repeat (first | (with_reducible first | exact HK.out | apply Kept.alloc | apply Kept.drewN | apply Kept.drew) | exact HK.out)⟩, ⟨by repeat (first | (with_reducible first | exact HB.out | apply below_alloc | apply pw_below_drewN | apply below_drew1) | exact HB.out)⟩⟩
        · rw [if_neg c4] at H
          exact absurd H (by simp)
      · rw [if_neg c3] at H
        have c3b0 : decide (x5_1 < (x0_1.length : Int)) = false := decide_eq_false c3
        clear c3
        simp only [Option.some.injEq, Prod.mk.injEq] at H
        obtain ⟨rfl, rfl⟩ := H
        obtain ⟨Ao26, co26, eo26⟩ := Kd.R_slice HO_0.out
        subst eo26
        go_wp2
        go_ret
        exact ⟨by first | rfl | (simp [errW_none, errW_some] <;> rfl) | (simp [*, errW_none, errW_some] <;> rfl), by (with_reducible repeat (first | apply Kd.R_alloc | apply Kd.R_drewN | apply Kd.R_drew)); exact HO_0.out, by repeat (first | (with_reducible first | exact HB.out | apply below_alloc | apply pw_below_drewN | apply below_drew1) | exact HB.out), by repeat (first | (with_reducible first | exact HK.out | apply Kept.alloc | apply Kept.drewN | apply Kept.drew) | exact HK.out)⟩

end Go.Proofs.Ytdolplcbokioaaa.PB

/- Functions of the translation as plain Lean functions, and for each that its call comes to just what its Lean function answers; its conditions stand in each theorem. Written by a program of this session. -/
namespace Go.Proofs.Ytdolplcbokioaaa.PB
open Go.RowKit Go.Proofs.YtdolplcbokioaaaW.PrintWords Go.Proofs.YtdolplcbokioaaaW.PrintLast Go.Proofs.YtdolplcbokioaaaW.PrintMore
attribute [local go_sem] max2_int min2_int max_two min_two max_three min_three max_four min_four   -- for this text's walks alone
set_option linter.unusedVariables false
set_option linter.unusedSimpArgs false

/-! ### laws_heldPageS: function 63 -/
def laws_heldPageS.l0 : Nat → List (S33) → Int → Int → Option (Int)
  | 0, _, _, _ => none
  | k + 1, x0, x1, x5 => if x5 < (x0.length : Int) then (if 0 ≤ x5 then (if ((rd_T33 x0 x5).f0) = x1 then (if ((rd_T33 x0 x5).f1) = (wrap64 (x1 + 1)) then (if ((rd_T33 x0 x5).f2) = (wrap64 ((wrap64 (x1 + 1)) + 1)) then (if ((rd_T33 x0 x5).f3) = (wrap64 ((wrap64 ((wrap64 (x1 + 1)) + 1)) + 1)) then (if ((rd_T33 x0 x5).f4) = (wrap64 ((wrap64 ((wrap64 ((wrap64 (x1 + 1)) + 1)) + 1)) + 1)) then ((laws_markText.f k (wrap64 ((wrap64 ((wrap64 ((wrap64 ((wrap64 (x1 + 1)) + 1)) + 1)) + 1)) + 1))).bind fun t1293 => (if ((rd_T33 x0 x5).f5).toList = t1293.toList then (laws_heldPageS.l0 k x0 (wrap64 ((wrap64 ((wrap64 ((wrap64 ((wrap64 ((wrap64 (x1 + 1)) + 1)) + 1)) + 1)) + 1)) + 1)) (wrap64 (x5 + 1))) else (some (-1)))) else (some (-1))) else (some (-1))) else (some (-1))) else (some (-1))) else (some (-1))) else (none)) else (some x1)
def laws_heldPageS.f (k : Nat) (l0 : List (S33)) (a1 : Int) : Option (Int) := laws_heldPageS.l0 k l0 a1 0
theorem laws_heldPageS.mono_l : ∀ k, (∀ y0 y1 y2, LeO (laws_heldPageS.l0 k y0 y1 y2) (laws_heldPageS.l0 (k + 1) y0 y1 y2))
  | 0 => fun _ _ _ r h => by simp [laws_heldPageS.l0] at h
  | k + 1 => by
    have ih0 := laws_heldPageS.mono_l k
    · intro y0 y1 y2
      unfold laws_heldPageS.l0
      repeat' first
      | (with_reducible exact ih0 _ _ _)
      | (with_reducible exact laws_markText.mono _ _)
      | (with_reducible exact LeO.refl _)
      | (with_reducible exact LeO.none _)
      | (with_reducible refine LeO.ite ?_ ?_)
      | (with_reducible refine LeO.bind ?_ (fun _ => ?_))
      | exact ih0 _ _ _
      | exact laws_markText.mono _ _
      | exact LeO.none _
      | refine LeO.ite ?_ ?_
      | refine LeO.bind ?_ (fun _ => ?_)
theorem laws_heldPageS.mono : ∀ a0 a1 k, LeO (laws_heldPageS.f k a0 a1) (laws_heldPageS.f (k + 1) a0 a1) := by
  intro a0 a1 k
  have ih0 := laws_heldPageS.mono_l k
  unfold laws_heldPageS.f
  repeat' first
      | (with_reducible exact ih0 _ _ _)
      | (with_reducible exact laws_markText.mono _ _)
      | (with_reducible exact LeO.refl _)
      | (with_reducible exact LeO.none _)
      | (with_reducible refine LeO.ite ?_ ?_)
      | (with_reducible refine LeO.bind ?_ (fun _ => ?_))
      | exact ih0 _ _ _
      | exact laws_markText.mono _ _
      | exact LeO.none _
      | refine LeO.ite ?_ ?_
      | refine LeO.bind ?_ (fun _ => ?_)
def laws_heldPageS.T19 : Bool × List (List Nat × List Nat) := (true, [([], []), ([], []), ([0, 1], [0, 1]), ([2], [2]), ([3], [3]), ([], []), ([5], [5]), ([4, 6], [4, 6])])
def laws_heldPageS.B19 : List Nat := [0, 0, 3, 7, 15, 0, 32, 127]
theorem laws_heldPageS.tab19 : rtab .any (opsOf Try.f63 19) = laws_heldPageS.T19 := by kernel_rfl
theorem laws_heldPageS.bits19 : waitsOk laws_heldPageS.T19.2 laws_heldPageS.B19 = true := by kernel_rfl
set_option maxHeartbeats 8000000 in
set_option maxRecDepth 100000 in
theorem laws_heldPageS.calls (k : Nat) (A0 : Option Addr) (c0 : Nat) (l0 : List (S33)) (a1 : Int) (r : Int) (w : World) (hr0 : Kd.C k33 w A0 l0.length l0) (hc0 : l0.length ≤ c0) (h : laws_heldPageS.f k l0 a1 = some r) :
    Calls Try.prog 63 #[.slice A0 l0.length c0, .int .i64 a1] w fun e w' => e = .returned (.int .i64 r) ∧ Below w.heap.size w w' := by
  have HR0 := Aside0.mk hr0
  have HC0 := Aside0.mk hc0
  clear hr0 hc0
  have HB := Aside0.mk (Below.refl w.heap.size w)
  have H : (laws_heldPageS.l0 k l0 a1 0) = some r := h
  clear h
  have H' := Aside0.mk H
  clear H
  go_enter Try.func63, Try.ntmps63
  go_wp2
  go_loopg [1, 5] k (fun kq v1 v5 w' => ∃ (x1_1 : Int) (x5_1 : Int), v1 = .int .i64 x1_1 ∧ v5 = .int .i64 x5_1 ∧ Aside0 (laws_heldPageS.l0 kq l0 x1_1 x5_1 = some r) ∧ Aside0 (kq ≤ k) ∧ Aside0 (Below w.heap.size w w'))
  case atStart => exact ⟨(a1), (0), (by first | rfl | (simp; done) | (simp [*]; done)), (by first | rfl | (simp; done) | (simp [*]; done)), H', ⟨Nat.le_refl _⟩, ⟨by repeat (first | (with_reducible first | exact HB.out | apply below_alloc | apply pw_below_drewN | apply below_drew1) | exact HB.out)⟩⟩
  case round =>
    clear H'
    try clear p2
    obtain ⟨x1_1, x5_1, rfl, rfl, HA, HK1, HB⟩ := hrel
    cases gk with
    | zero => exact absurd HA.out (by simp [laws_heldPageS.l0])
    | succ k1 =>
      have H := HA.out
      clear HA
      simp only [laws_heldPageS.l0] at H
      by_cases c3 : x5_1 < (l0.length : Int)
      · rw [if_pos c3] at H
        have c3b0 : decide (x5_1 < (l0.length : Int)) = true := decide_eq_true c3
        clear c3
        by_cases c4 : 0 ≤ x5_1
        · rw [if_pos c4] at H
          have c4b0 : decide (0 ≤ x5_1) = true := decide_eq_true c4
          clear c4
          by_cases c5 : ((rd_T33 l0 x5_1).f0) = x1_1
          · rw [if_pos c5] at H
            have c5b0 : (((rd_T33 l0 x5_1).f0) == x1_1) = true := beq_iff_eq.mpr c5
            have c5b1 : (((rd_T33 l0 x5_1).f0) != x1_1) = false := bne_eq_false_iff_eq.mpr c5
            clear c5
            by_cases c6 : ((rd_T33 l0 x5_1).f1) = (wrap64 (x1_1 + 1))
            · rw [if_pos c6] at H
              have c6b0 : (((rd_T33 l0 x5_1).f1) == (wrap64 (x1_1 + 1))) = true := beq_iff_eq.mpr c6
              have c6b1 : (((rd_T33 l0 x5_1).f1) != (wrap64 (x1_1 + 1))) = false := bne_eq_false_iff_eq.mpr c6
              clear c6
              by_cases c7 : ((rd_T33 l0 x5_1).f2) = (wrap64 ((wrap64 (x1_1 + 1)) + 1))
              · rw [if_pos c7] at H
                have c7b0 : (((rd_T33 l0 x5_1).f2) == (wrap64 ((wrap64 (x1_1 + 1)) + 1))) = true := beq_iff_eq.mpr c7
                have c7b1 : (((rd_T33 l0 x5_1).f2) != (wrap64 ((wrap64 (x1_1 + 1)) + 1))) = false := bne_eq_false_iff_eq.mpr c7
                clear c7
                by_cases c8 : ((rd_T33 l0 x5_1).f3) = (wrap64 ((wrap64 ((wrap64 (x1_1 + 1)) + 1)) + 1))
                · rw [if_pos c8] at H
                  have c8b0 : (((rd_T33 l0 x5_1).f3) == (wrap64 ((wrap64 ((wrap64 (x1_1 + 1)) + 1)) + 1))) = true := beq_iff_eq.mpr c8
                  have c8b1 : (((rd_T33 l0 x5_1).f3) != (wrap64 ((wrap64 ((wrap64 (x1_1 + 1)) + 1)) + 1))) = false := bne_eq_false_iff_eq.mpr c8
                  clear c8
                  by_cases c9 : ((rd_T33 l0 x5_1).f4) = (wrap64 ((wrap64 ((wrap64 ((wrap64 (x1_1 + 1)) + 1)) + 1)) + 1))
                  · rw [if_pos c9] at H
                    have c9b0 : (((rd_T33 l0 x5_1).f4) == (wrap64 ((wrap64 ((wrap64 ((wrap64 (x1_1 + 1)) + 1)) + 1)) + 1))) = true := beq_iff_eq.mpr c9
                    have c9b1 : (((rd_T33 l0 x5_1).f4) != (wrap64 ((wrap64 ((wrap64 ((wrap64 (x1_1 + 1)) + 1)) + 1)) + 1))) = false := bne_eq_false_iff_eq.mpr c9
                    clear c9
                    replace H := Option.bind_eq_some_iff.mp H
                    obtain ⟨t1293, A100, H⟩ := H
                    replace H : (if ((rd_T33 l0 x5_1).f5).toList = t1293.toList then (laws_heldPageS.l0 k1 l0 (wrap64 ((wrap64 ((wrap64 ((wrap64 ((wrap64 ((wrap64 (x1_1 + 1)) + 1)) + 1)) + 1)) + 1)) + 1)) (wrap64 (x5_1 + 1))) else (some (-1))) = some r := H
                    have A10 := Aside0.mk A100
                    clear A100
                    by_cases c11 : ((rd_T33 l0 x5_1).f5).toList = t1293.toList
                    · rw [if_pos c11] at H
                      have c11b0 : (((rd_T33 l0 x5_1).f5).toList == t1293.toList) = true := beq_iff_eq.mpr c11
                      have c11b1 : (((rd_T33 l0 x5_1).f5).toList != t1293.toList) = false := bne_eq_false_iff_eq.mpr c11
                      clear c11
                      have H' := Aside0.mk H
                      clear H
                      have p1287 : 0 ≤ (x5_1 : Int) := of_decide_eq_true (by first | (with_reducible assumption) | assumption)
                      have q1287 : x5_1 < (l0.length : Int) := of_decide_eq_true (by first | (with_reducible assumption) | assumption)
                      obtain ⟨ad1287, e1287, hx1287_0, hx1287_1, hx1287_2, hx1287_3, hx1287_4, hx1287_5⟩ := at_T33 HR0.out x5_1 p1287 q1287
                      cases e1287
                      replace hx1287_0 := (HB.out.cell (World.block_lt_of_cell? w _ hx1287_0)).trans hx1287_0
                      replace hx1287_1 := (HB.out.cell (World.block_lt_of_cell? w _ hx1287_1)).trans hx1287_1
                      replace hx1287_2 := (HB.out.cell (World.block_lt_of_cell? w _ hx1287_2)).trans hx1287_2
                      replace hx1287_3 := (HB.out.cell (World.block_lt_of_cell? w _ hx1287_3)).trans hx1287_3
                      replace hx1287_4 := (HB.out.cell (World.block_lt_of_cell? w _ hx1287_4)).trans hx1287_4
                      replace hx1287_5 := (HB.out.cell (World.block_lt_of_cell? w _ hx1287_5)).trans hx1287_5
                      replace p1287 := eq_true p1287
                      replace q1287 := eq_true q1287
                      have p1288 : 0 ≤ (x5_1 : Int) := of_decide_eq_true (by first | (with_reducible assumption) | assumption)
                      have q1288 : x5_1 < (l0.length : Int) := of_decide_eq_true (by first | (with_reducible assumption) | assumption)
                      obtain ⟨ad1288, e1288, hx1288_0, hx1288_1, hx1288_2, hx1288_3, hx1288_4, hx1288_5⟩ := at_T33 HR0.out x5_1 p1288 q1288
                      obtain rfl : ad1287 = ad1288 := (by injection e1288)
                      replace hx1288_0 := (HB.out.cell (World.block_lt_of_cell? w _ hx1288_0)).trans hx1288_0
                      replace hx1288_1 := (HB.out.cell (World.block_lt_of_cell? w _ hx1288_1)).trans hx1288_1
                      replace hx1288_2 := (HB.out.cell (World.block_lt_of_cell? w _ hx1288_2)).trans hx1288_2
                      replace hx1288_3 := (HB.out.cell (World.block_lt_of_cell? w _ hx1288_3)).trans hx1288_3
                      replace hx1288_4 := (HB.out.cell (World.block_lt_of_cell? w _ hx1288_4)).trans hx1288_4
                      replace hx1288_5 := (HB.out.cell (World.block_lt_of_cell? w _ hx1288_5)).trans hx1288_5
                      replace p1288 := eq_true p1288
                      replace q1288 := eq_true q1288
                      have p1289 : 0 ≤ (x5_1 : Int) := of_decide_eq_true (by first | (with_reducible assumption) | assumption)
                      have q1289 : x5_1 < (l0.length : Int) := of_decide_eq_true (by first | (with_reducible assumption) | assumption)
                      obtain ⟨ad1289, e1289, hx1289_0, hx1289_1, hx1289_2, hx1289_3, hx1289_4, hx1289_5⟩ := at_T33 HR0.out x5_1 p1289 q1289
                      obtain rfl : ad1287 = ad1289 := (by injection e1289)
                      replace hx1289_0 := (HB.out.cell (World.block_lt_of_cell? w _ hx1289_0)).trans hx1289_0
                      replace hx1289_1 := (HB.out.cell (World.block_lt_of_cell? w _ hx1289_1)).trans hx1289_1
                      replace hx1289_2 := (HB.out.cell (World.block_lt_of_cell? w _ hx1289_2)).trans hx1289_2
                      replace hx1289_3 := (HB.out.cell (World.block_lt_of_cell? w _ hx1289_3)).trans hx1289_3
                      replace hx1289_4 := (HB.out.cell (World.block_lt_of_cell? w _ hx1289_4)).trans hx1289_4
                      replace hx1289_5 := (HB.out.cell (World.block_lt_of_cell? w _ hx1289_5)).trans hx1289_5
                      replace p1289 := eq_true p1289
                      replace q1289 := eq_true q1289
                      have p1290 : 0 ≤ (x5_1 : Int) := of_decide_eq_true (by first | (with_reducible assumption) | assumption)
                      have q1290 : x5_1 < (l0.length : Int) := of_decide_eq_true (by first | (with_reducible assumption) | assumption)
                      obtain ⟨ad1290, e1290, hx1290_0, hx1290_1, hx1290_2, hx1290_3, hx1290_4, hx1290_5⟩ := at_T33 HR0.out x5_1 p1290 q1290
                      obtain rfl : ad1287 = ad1290 := (by injection e1290)
                      replace hx1290_0 := (HB.out.cell (World.block_lt_of_cell? w _ hx1290_0)).trans hx1290_0
                      replace hx1290_1 := (HB.out.cell (World.block_lt_of_cell? w _ hx1290_1)).trans hx1290_1
                      replace hx1290_2 := (HB.out.cell (World.block_lt_of_cell? w _ hx1290_2)).trans hx1290_2
                      replace hx1290_3 := (HB.out.cell (World.block_lt_of_cell? w _ hx1290_3)).trans hx1290_3
                      replace hx1290_4 := (HB.out.cell (World.block_lt_of_cell? w _ hx1290_4)).trans hx1290_4
                      replace hx1290_5 := (HB.out.cell (World.block_lt_of_cell? w _ hx1290_5)).trans hx1290_5
                      replace p1290 := eq_true p1290
                      replace q1290 := eq_true q1290
                      have p1291 : 0 ≤ (x5_1 : Int) := of_decide_eq_true (by first | (with_reducible assumption) | assumption)
                      have q1291 : x5_1 < (l0.length : Int) := of_decide_eq_true (by first | (with_reducible assumption) | assumption)
                      obtain ⟨ad1291, e1291, hx1291_0, hx1291_1, hx1291_2, hx1291_3, hx1291_4, hx1291_5⟩ := at_T33 HR0.out x5_1 p1291 q1291
                      obtain rfl : ad1287 = ad1291 := (by injection e1291)
                      replace hx1291_0 := (HB.out.cell (World.block_lt_of_cell? w _ hx1291_0)).trans hx1291_0
                      replace hx1291_1 := (HB.out.cell (World.block_lt_of_cell? w _ hx1291_1)).trans hx1291_1
                      replace hx1291_2 := (HB.out.cell (World.block_lt_of_cell? w _ hx1291_2)).trans hx1291_2
                      replace hx1291_3 := (HB.out.cell (World.block_lt_of_cell? w _ hx1291_3)).trans hx1291_3
                      replace hx1291_4 := (HB.out.cell (World.block_lt_of_cell? w _ hx1291_4)).trans hx1291_4
                      replace hx1291_5 := (HB.out.cell (World.block_lt_of_cell? w _ hx1291_5)).trans hx1291_5
                      replace p1291 := eq_true p1291
                      replace q1291 := eq_true q1291
                      try go_wp2
                      have n0_ := Aside0.mk (below_drew1 HB.out)
                      clear HB
                      have HB := n0_
                      clear n0_
                      have p1292 : 0 ≤ (x5_1 : Int) := of_decide_eq_true (by first | (with_reducible assumption) | assumption)
                      have q1292 : x5_1 < (l0.length : Int) := of_decide_eq_true (by first | (with_reducible assumption) | assumption)
                      obtain ⟨ad1292, e1292, hx1292_0, hx1292_1, hx1292_2, hx1292_3, hx1292_4, hx1292_5⟩ := at_T33 HR0.out x5_1 p1292 q1292
                      have hw1292_5 := hx1292_5
                      have hw1292_4 := hx1292_4
                      have hw1292_3 := hx1292_3
                      have hw1292_2 := hx1292_2
                      have hw1292_1 := hx1292_1
                      have hw1292_0 := hx1292_0
                      obtain rfl : ad1287 = ad1292 := (by injection e1292)
                      replace hx1292_0 := (HB.out.cell (World.block_lt_of_cell? w _ hx1292_0)).trans hx1292_0
                      replace hx1292_1 := (HB.out.cell (World.block_lt_of_cell? w _ hx1292_1)).trans hx1292_1
                      replace hx1292_2 := (HB.out.cell (World.block_lt_of_cell? w _ hx1292_2)).trans hx1292_2
                      replace hx1292_3 := (HB.out.cell (World.block_lt_of_cell? w _ hx1292_3)).trans hx1292_3
                      replace hx1292_4 := (HB.out.cell (World.block_lt_of_cell? w _ hx1292_4)).trans hx1292_4
                      replace hx1292_5 := (HB.out.cell (World.block_lt_of_cell? w _ hx1292_5)).trans hx1292_5
                      replace p1292 := eq_true p1292
                      replace q1292 := eq_true q1292
                      refine start_ (n := 8) (S := fun w' => w'.cell? (ad1287.add ((x5_1).toNat * 6)) = some (.int .i64 ((rd_T33 l0 x5_1).f0)) ∧ w'.cell? ⟨(ad1287.add ((x5_1).toNat * 6)).block, (ad1287.add ((x5_1).toNat * 6)).off + 1, none⟩ = some (.int .i64 ((rd_T33 l0 x5_1).f1)) ∧ w'.cell? ⟨(ad1287.add ((x5_1).toNat * 6)).block, (ad1287.add ((x5_1).toNat * 6)).off + 2, none⟩ = some (.int .i64 ((rd_T33 l0 x5_1).f2)) ∧ w'.cell? ⟨(ad1287.add ((x5_1).toNat * 6)).block, (ad1287.add ((x5_1).toNat * 6)).off + 3, none⟩ = some (.int .i64 ((rd_T33 l0 x5_1).f3)) ∧ w'.cell? ⟨(ad1287.add ((x5_1).toNat * 6)).block, (ad1287.add ((x5_1).toNat * 6)).off + 4, none⟩ = some (.int .i64 ((rd_T33 l0 x5_1).f4)) ∧ w'.cell? ⟨(ad1287.add ((x5_1).toNat * 6)).block, (ad1287.add ((x5_1).toNat * 6)).off + 5, none⟩ = some (.string ((rd_T33 l0 x5_1).f5))) (ds := []) #[false, false, false, false, false, false, false, false] (by kernel_rfl) rfl rfl ⟨((HB.out.cell (World.block_lt_of_cell? w _ hw1292_0)).trans hw1292_0), ((HB.out.cell (World.block_lt_of_cell? w _ hw1292_1)).trans hw1292_1), ((HB.out.cell (World.block_lt_of_cell? w _ hw1292_2)).trans hw1292_2), ((HB.out.cell (World.block_lt_of_cell? w _ hw1292_3)).trans hw1292_3), ((HB.out.cell (World.block_lt_of_cell? w _ hw1292_4)).trans hw1292_4), ((HB.out.cell (World.block_lt_of_cell? w _ hw1292_5)).trans hw1292_5)⟩ (fun hHeld => ?_); refine with_tabW laws_heldPageS.tab19 laws_heldPageS.bits19 (fun HT_ HW_ => ?_)
                      generalize wr.drew = w12 at HB hx1292_0 hx1292_1 hx1292_2 hx1292_3 hx1292_4 hx1292_5 hHeld ⊢
                      refine pure_ (i := 0) (N := some 57) (v := ?_) (a' := ?_) #[true, false, false, false, false, false, false, false] rfl rfl (any_of HT_.out (by kernel_rfl)) (fun _ _ _ h => h) (Or.inl ⟨by rfl, ?_⟩) ?_ ?_
                      rotate_left
                      · intro w'
                        go_simp
                        with_reducible rfl
                      rotate_left
                      · simp only [Act.put, List.setIfInBounds_toArray, List.set_cons_zero, List.set_cons_succ, i64_w, i32_w]
                        rfl
                      refine pure_ (i := 1) (N := some 58) (v := ?_) (a' := ?_) #[true, true, false, false, false, false, false, false] rfl rfl (any_of HT_.out (by kernel_rfl)) (fun _ _ _ h => h) (Or.inl ⟨by rfl, ?_⟩) ?_ ?_
                      rotate_left
                      · intro w'
                        go_simp
                        with_reducible rfl
                      rotate_left
                      · simp only [Act.put, List.setIfInBounds_toArray, List.set_cons_zero, List.set_cons_succ, i64_w, i32_w]
                        rfl
                      refine pure_ (i := 2) (N := some 59) (v := ?_) (a' := ?_) #[true, true, true, false, false, false, false, false] rfl rfl (any_of HT_.out (by kernel_rfl)) (fun _ _ _ h => h) (Or.inl ⟨by rfl, ?_⟩) ?_ ?_
                      rotate_left
                      · intro w'
                        go_simp
                        with_reducible rfl
                      rotate_left
                      · simp only [Act.put, List.setIfInBounds_toArray, List.set_cons_zero, List.set_cons_succ, i64_w, i32_w]
                        rfl
                      refine pure_ (i := 3) (N := some 60) (v := ?_) (a' := ?_) #[true, true, true, true, false, false, false, false] rfl rfl (any_of HT_.out (by kernel_rfl)) (fun _ _ _ h => h) (Or.inl ⟨by rfl, ?_⟩) ?_ ?_
                      rotate_left
                      · intro w'
                        go_simp
                        with_reducible rfl
                      rotate_left
                      · simp only [Act.put, List.setIfInBounds_toArray, List.set_cons_zero, List.set_cons_succ, i64_w, i32_w]
                        rfl
                      refine pure_ (i := 5) (N := some 62) (v := ?_) (a' := ?_) #[true, true, true, true, false, true, false, false] rfl rfl (any_of HT_.out (by kernel_rfl)) (fun _ _ _ h => h) (Or.inl ⟨by rfl, ?_⟩) ?_ ?_
                      rotate_left
                      · intro w'
                        go_simp
                        with_reducible rfl
                      rotate_left
                      · simp only [Act.put, List.setIfInBounds_toArray, List.set_cons_zero, List.set_cons_succ, i64_w, i32_w]
                        rfl
                      refine take_ (i := 4) (N := some 61) (v := ?_) (a' := ?_) #[true, true, true, true, true, true, false, false] rfl rfl (take_ofW HT_.out HW_.out (by kernel_rfl)) (fun _ _ _ h => h) (Or.inl ⟨by rfl, ?_⟩) hHeld ?_ ?_
                      rotate_left
                      · rintro w' ⟨s0, s1, s2, s3, s4, s5⟩
                        go_simp
                        with_reducible rfl
                      rotate_left
                      · simp only [Act.put, List.setIfInBounds_toArray, List.set_cons_zero, List.set_cons_succ, i64_w, i32_w]
                        rfl
                      refine one_ (i := 6) (N := some 63) #[true, true, true, true, true, true, true, false] rfl rfl (one_of HT_.out (by kernel_rfl)) (by decide) (fun K hK => ?_)
                      refine goes_ Try.func126 (by kernel_rfl) rfl #[.int .i64 (wrap64 ((wrap64 ((wrap64 ((wrap64 ((wrap64 (x1_1 + 1)) + 1)) + 1)) + 1)) + 1))] (by rfl) rfl rfl (by (try simp only [List.map_toArray, List.map_cons, List.map_nil]); first | done | rfl | (simp only [List.length_drop, List.length_take]; rfl)) ?_
                      with_reducible refine (laws_markText.calls k1 (wrap64 ((wrap64 ((wrap64 ((wrap64 ((wrap64 (x1_1 + 1)) + 1)) + 1)) + 1)) + 1)) t1293 _ A10.out).mono ?_
                      rintro e w13 ⟨rfl, hb⟩
                      refine ⟨_, rfl, ?_⟩
                      have n0_ := Aside0.mk (below_step (by repeat (first | (with_reducible first | exact HB.out | apply below_alloc | apply pw_below_drewN | apply below_drew1) | exact HB.out)) hb)
                      clear HB
                      have HB := n0_
                      clear n0_
                      (try clear hb)
                      (try clear hb2)
                      (try clear hk)
                      (try clear hi)
                      refine hK.out _ _ ⟨((HB.out.cell (World.block_lt_of_cell? w _ hw1292_0)).trans hw1292_0), ((HB.out.cell (World.block_lt_of_cell? w _ hw1292_1)).trans hw1292_1), ((HB.out.cell (World.block_lt_of_cell? w _ hw1292_2)).trans hw1292_2), ((HB.out.cell (World.block_lt_of_cell? w _ hw1292_3)).trans hw1292_3), ((HB.out.cell (World.block_lt_of_cell? w _ hw1292_4)).trans hw1292_4), ((HB.out.cell (World.block_lt_of_cell? w _ hw1292_5)).trans hw1292_5)⟩ (fun hHeld => ?_)
                      clear hK K
                      refine norm_ (a' := ?_) ?_ ?_
                      rotate_left
                      · show Act.put _ (some 63) _ = _
                        simp only [Act.put, List.setIfInBounds_toArray, List.set_cons_zero, List.set_cons_succ, i64_w, i32_w]
                        rfl
                      refine pure_ (i := 7) (N := some 64) (v := ?_) (a' := ?_) #[true, true, true, true, true, true, true, true] rfl rfl (any_of HT_.out (by kernel_rfl)) (fun _ _ _ h => h) (Or.inl ⟨by rfl, ?_⟩) ?_ ?_
                      rotate_left
                      · intro w'
                        go_simp
                        with_reducible rfl
                      rotate_left
                      · simp only [Act.put, List.setIfInBounds_toArray, List.set_cons_zero, List.set_cons_succ, i64_w, i32_w]
                        rfl
                      refine done_ (done_of HT_.out (by kernel_rfl)) ?_
                      try go_wp2
                      go_roundg k1
                      case measure => have := HK1.out; omega
                      case rel => exact ⟨(wrap64 ((wrap64 ((wrap64 ((wrap64 ((wrap64 ((wrap64 (x1_1 + 1)) + 1)) + 1)) + 1)) + 1)) + 1)), (wrap64 (x5_1 + 1)), (by first | rfl | (simp; done) | (simp [*]; done)), (by first | rfl | (simp; done) | (simp [*]; done)), H', ⟨by have := HK1.out; omega⟩, ⟨by repeat (first | (with_reducible first | exact HB.out | apply below_alloc | apply pw_below_drewN | apply below_drew1) | exact HB.out)⟩⟩
                    · rw [if_neg c11] at H
                      have c11b0 : (((rd_T33 l0 x5_1).f5).toList == t1293.toList) = false := beq_eq_false_iff_ne.mpr c11
                      have c11b1 : (((rd_T33 l0 x5_1).f5).toList != t1293.toList) = true := bne_iff_ne.mpr c11
                      obtain rfl := Option.some.inj H
                      have p1287 : 0 ≤ (x5_1 : Int) := of_decide_eq_true (by first | (with_reducible assumption) | assumption)
                      have q1287 : x5_1 < (l0.length : Int) := of_decide_eq_true (by first | (with_reducible assumption) | assumption)
                      obtain ⟨ad1287, e1287, hx1287_0, hx1287_1, hx1287_2, hx1287_3, hx1287_4, hx1287_5⟩ := at_T33 HR0.out x5_1 p1287 q1287
                      cases e1287
                      replace hx1287_0 := (HB.out.cell (World.block_lt_of_cell? w _ hx1287_0)).trans hx1287_0
                      replace hx1287_1 := (HB.out.cell (World.block_lt_of_cell? w _ hx1287_1)).trans hx1287_1
                      replace hx1287_2 := (HB.out.cell (World.block_lt_of_cell? w _ hx1287_2)).trans hx1287_2
                      replace hx1287_3 := (HB.out.cell (World.block_lt_of_cell? w _ hx1287_3)).trans hx1287_3
                      replace hx1287_4 := (HB.out.cell (World.block_lt_of_cell? w _ hx1287_4)).trans hx1287_4
                      replace hx1287_5 := (HB.out.cell (World.block_lt_of_cell? w _ hx1287_5)).trans hx1287_5
                      replace p1287 := eq_true p1287
                      replace q1287 := eq_true q1287
                      have p1288 : 0 ≤ (x5_1 : Int) := of_decide_eq_true (by first | (with_reducible assumption) | assumption)
                      have q1288 : x5_1 < (l0.length : Int) := of_decide_eq_true (by first | (with_reducible assumption) | assumption)
                      obtain ⟨ad1288, e1288, hx1288_0, hx1288_1, hx1288_2, hx1288_3, hx1288_4, hx1288_5⟩ := at_T33 HR0.out x5_1 p1288 q1288
                      obtain rfl : ad1287 = ad1288 := (by injection e1288)
                      replace hx1288_0 := (HB.out.cell (World.block_lt_of_cell? w _ hx1288_0)).trans hx1288_0
                      replace hx1288_1 := (HB.out.cell (World.block_lt_of_cell? w _ hx1288_1)).trans hx1288_1
                      replace hx1288_2 := (HB.out.cell (World.block_lt_of_cell? w _ hx1288_2)).trans hx1288_2
                      replace hx1288_3 := (HB.out.cell (World.block_lt_of_cell? w _ hx1288_3)).trans hx1288_3
                      replace hx1288_4 := (HB.out.cell (World.block_lt_of_cell? w _ hx1288_4)).trans hx1288_4
                      replace hx1288_5 := (HB.out.cell (World.block_lt_of_cell? w _ hx1288_5)).trans hx1288_5
                      replace p1288 := eq_true p1288
                      replace q1288 := eq_true q1288
                      have p1289 : 0 ≤ (x5_1 : Int) := of_decide_eq_true (by first | (with_reducible assumption) | assumption)
                      have q1289 : x5_1 < (l0.length : Int) := of_decide_eq_true (by first | (with_reducible assumption) | assumption)
                      obtain ⟨ad1289, e1289, hx1289_0, hx1289_1, hx1289_2, hx1289_3, hx1289_4, hx1289_5⟩ := at_T33 HR0.out x5_1 p1289 q1289
                      obtain rfl : ad1287 = ad1289 := (by injection e1289)
                      replace hx1289_0 := (HB.out.cell (World.block_lt_of_cell? w _ hx1289_0)).trans hx1289_0
                      replace hx1289_1 := (HB.out.cell (World.block_lt_of_cell? w _ hx1289_1)).trans hx1289_1
                      replace hx1289_2 := (HB.out.cell (World.block_lt_of_cell? w _ hx1289_2)).trans hx1289_2
                      replace hx1289_3 := (HB.out.cell (World.block_lt_of_cell? w _ hx1289_3)).trans hx1289_3
                      replace hx1289_4 := (HB.out.cell (World.block_lt_of_cell? w _ hx1289_4)).trans hx1289_4
                      replace hx1289_5 := (HB.out.cell (World.block_lt_of_cell? w _ hx1289_5)).trans hx1289_5
                      replace p1289 := eq_true p1289
                      replace q1289 := eq_true q1289
                      have p1290 : 0 ≤ (x5_1 : Int) := of_decide_eq_true (by first | (with_reducible assumption) | assumption)
                      have q1290 : x5_1 < (l0.length : Int) := of_decide_eq_true (by first | (with_reducible assumption) | assumption)
                      obtain ⟨ad1290, e1290, hx1290_0, hx1290_1, hx1290_2, hx1290_3, hx1290_4, hx1290_5⟩ := at_T33 HR0.out x5_1 p1290 q1290
                      obtain rfl : ad1287 = ad1290 := (by injection e1290)
                      replace hx1290_0 := (HB.out.cell (World.block_lt_of_cell? w _ hx1290_0)).trans hx1290_0
                      replace hx1290_1 := (HB.out.cell (World.block_lt_of_cell? w _ hx1290_1)).trans hx1290_1
                      replace hx1290_2 := (HB.out.cell (World.block_lt_of_cell? w _ hx1290_2)).trans hx1290_2
                      replace hx1290_3 := (HB.out.cell (World.block_lt_of_cell? w _ hx1290_3)).trans hx1290_3
                      replace hx1290_4 := (HB.out.cell (World.block_lt_of_cell? w _ hx1290_4)).trans hx1290_4
                      replace hx1290_5 := (HB.out.cell (World.block_lt_of_cell? w _ hx1290_5)).trans hx1290_5
                      replace p1290 := eq_true p1290
                      replace q1290 := eq_true q1290
                      have p1291 : 0 ≤ (x5_1 : Int) := of_decide_eq_true (by first | (with_reducible assumption) | assumption)
                      have q1291 : x5_1 < (l0.length : Int) := of_decide_eq_true (by first | (with_reducible assumption) | assumption)
                      obtain ⟨ad1291, e1291, hx1291_0, hx1291_1, hx1291_2, hx1291_3, hx1291_4, hx1291_5⟩ := at_T33 HR0.out x5_1 p1291 q1291
                      obtain rfl : ad1287 = ad1291 := (by injection e1291)
                      replace hx1291_0 := (HB.out.cell (World.block_lt_of_cell? w _ hx1291_0)).trans hx1291_0
                      replace hx1291_1 := (HB.out.cell (World.block_lt_of_cell? w _ hx1291_1)).trans hx1291_1
                      replace hx1291_2 := (HB.out.cell (World.block_lt_of_cell? w _ hx1291_2)).trans hx1291_2
                      replace hx1291_3 := (HB.out.cell (World.block_lt_of_cell? w _ hx1291_3)).trans hx1291_3
                      replace hx1291_4 := (HB.out.cell (World.block_lt_of_cell? w _ hx1291_4)).trans hx1291_4
                      replace hx1291_5 := (HB.out.cell (World.block_lt_of_cell? w _ hx1291_5)).trans hx1291_5
                      replace p1291 := eq_true p1291
                      replace q1291 := eq_true q1291
                      try go_wp2
                      have n0_ := Aside0.mk (below_drew1 HB.out)
                      clear HB
                      have HB := n0_
                      clear n0_
                      have p1292 : 0 ≤ (x5_1 : Int) := of_decide_eq_true (by first | (with_reducible assumption) | assumption)
                      have q1292 : x5_1 < (l0.length : Int) := of_decide_eq_true (by first | (with_reducible assumption) | assumption)
                      obtain ⟨ad1292, e1292, hx1292_0, hx1292_1, hx1292_2, hx1292_3, hx1292_4, hx1292_5⟩ := at_T33 HR0.out x5_1 p1292 q1292
                      have hw1292_5 := hx1292_5
                      have hw1292_4 := hx1292_4
                      have hw1292_3 := hx1292_3
                      have hw1292_2 := hx1292_2
                      have hw1292_1 := hx1292_1
                      have hw1292_0 := hx1292_0
                      obtain rfl : ad1287 = ad1292 := (by injection e1292)
                      replace hx1292_0 := (HB.out.cell (World.block_lt_of_cell? w _ hx1292_0)).trans hx1292_0
                      replace hx1292_1 := (HB.out.cell (World.block_lt_of_cell? w _ hx1292_1)).trans hx1292_1
                      replace hx1292_2 := (HB.out.cell (World.block_lt_of_cell? w _ hx1292_2)).trans hx1292_2
                      replace hx1292_3 := (HB.out.cell (World.block_lt_of_cell? w _ hx1292_3)).trans hx1292_3
                      replace hx1292_4 := (HB.out.cell (World.block_lt_of_cell? w _ hx1292_4)).trans hx1292_4
                      replace hx1292_5 := (HB.out.cell (World.block_lt_of_cell? w _ hx1292_5)).trans hx1292_5
                      replace p1292 := eq_true p1292
                      replace q1292 := eq_true q1292
                      refine start_ (n := 8) (S := fun w' => w'.cell? (ad1287.add ((x5_1).toNat * 6)) = some (.int .i64 ((rd_T33 l0 x5_1).f0)) ∧ w'.cell? ⟨(ad1287.add ((x5_1).toNat * 6)).block, (ad1287.add ((x5_1).toNat * 6)).off + 1, none⟩ = some (.int .i64 ((rd_T33 l0 x5_1).f1)) ∧ w'.cell? ⟨(ad1287.add ((x5_1).toNat * 6)).block, (ad1287.add ((x5_1).toNat * 6)).off + 2, none⟩ = some (.int .i64 ((rd_T33 l0 x5_1).f2)) ∧ w'.cell? ⟨(ad1287.add ((x5_1).toNat * 6)).block, (ad1287.add ((x5_1).toNat * 6)).off + 3, none⟩ = some (.int .i64 ((rd_T33 l0 x5_1).f3)) ∧ w'.cell? ⟨(ad1287.add ((x5_1).toNat * 6)).block, (ad1287.add ((x5_1).toNat * 6)).off + 4, none⟩ = some (.int .i64 ((rd_T33 l0 x5_1).f4)) ∧ w'.cell? ⟨(ad1287.add ((x5_1).toNat * 6)).block, (ad1287.add ((x5_1).toNat * 6)).off + 5, none⟩ = some (.string ((rd_T33 l0 x5_1).f5))) (ds := []) #[false, false, false, false, false, false, false, false] (by kernel_rfl) rfl rfl ⟨((HB.out.cell (World.block_lt_of_cell? w _ hw1292_0)).trans hw1292_0), ((HB.out.cell (World.block_lt_of_cell? w _ hw1292_1)).trans hw1292_1), ((HB.out.cell (World.block_lt_of_cell? w _ hw1292_2)).trans hw1292_2), ((HB.out.cell (World.block_lt_of_cell? w _ hw1292_3)).trans hw1292_3), ((HB.out.cell (World.block_lt_of_cell? w _ hw1292_4)).trans hw1292_4), ((HB.out.cell (World.block_lt_of_cell? w _ hw1292_5)).trans hw1292_5)⟩ (fun hHeld => ?_); refine with_tabW laws_heldPageS.tab19 laws_heldPageS.bits19 (fun HT_ HW_ => ?_)
                      generalize wr.drew = w14 at HB hx1292_0 hx1292_1 hx1292_2 hx1292_3 hx1292_4 hx1292_5 hHeld ⊢
                      refine pure_ (i := 0) (N := some 57) (v := ?_) (a' := ?_) #[true, false, false, false, false, false, false, false] rfl rfl (any_of HT_.out (by kernel_rfl)) (fun _ _ _ h => h) (Or.inl ⟨by rfl, ?_⟩) ?_ ?_
                      rotate_left
                      · intro w'
                        go_simp
                        with_reducible rfl
                      rotate_left
                      · simp only [Act.put, List.setIfInBounds_toArray, List.set_cons_zero, List.set_cons_succ, i64_w, i32_w]
                        rfl
                      refine pure_ (i := 1) (N := some 58) (v := ?_) (a' := ?_) #[true, true, false, false, false, false, false, false] rfl rfl (any_of HT_.out (by kernel_rfl)) (fun _ _ _ h => h) (Or.inl ⟨by rfl, ?_⟩) ?_ ?_
                      rotate_left
                      · intro w'
                        go_simp
                        with_reducible rfl
                      rotate_left
                      · simp only [Act.put, List.setIfInBounds_toArray, List.set_cons_zero, List.set_cons_succ, i64_w, i32_w]
                        rfl
                      refine pure_ (i := 2) (N := some 59) (v := ?_) (a' := ?_) #[true, true, true, false, false, false, false, false] rfl rfl (any_of HT_.out (by kernel_rfl)) (fun _ _ _ h => h) (Or.inl ⟨by rfl, ?_⟩) ?_ ?_
                      rotate_left
                      · intro w'
                        go_simp
                        with_reducible rfl
                      rotate_left
                      · simp only [Act.put, List.setIfInBounds_toArray, List.set_cons_zero, List.set_cons_succ, i64_w, i32_w]
                        rfl
                      refine pure_ (i := 3) (N := some 60) (v := ?_) (a' := ?_) #[true, true, true, true, false, false, false, false] rfl rfl (any_of HT_.out (by kernel_rfl)) (fun _ _ _ h => h) (Or.inl ⟨by rfl, ?_⟩) ?_ ?_
                      rotate_left
                      · intro w'
                        go_simp
                        with_reducible rfl
                      rotate_left
                      · simp only [Act.put, List.setIfInBounds_toArray, List.set_cons_zero, List.set_cons_succ, i64_w, i32_w]
                        rfl
                      refine pure_ (i := 5) (N := some 62) (v := ?_) (a' := ?_) #[true, true, true, true, false, true, false, false] rfl rfl (any_of HT_.out (by kernel_rfl)) (fun _ _ _ h => h) (Or.inl ⟨by rfl, ?_⟩) ?_ ?_
                      rotate_left
                      · intro w'
                        go_simp
                        with_reducible rfl
                      rotate_left
                      · simp only [Act.put, List.setIfInBounds_toArray, List.set_cons_zero, List.set_cons_succ, i64_w, i32_w]
                        rfl
                      refine take_ (i := 4) (N := some 61) (v := ?_) (a' := ?_) #[true, true, true, true, true, true, false, false] rfl rfl (take_ofW HT_.out HW_.out (by kernel_rfl)) (fun _ _ _ h => h) (Or.inl ⟨by rfl, ?_⟩) hHeld ?_ ?_
                      rotate_left
                      · rintro w' ⟨s0, s1, s2, s3, s4, s5⟩
                        go_simp
                        with_reducible rfl
                      rotate_left
                      · simp only [Act.put, List.setIfInBounds_toArray, List.set_cons_zero, List.set_cons_succ, i64_w, i32_w]
                        rfl
                      refine one_ (i := 6) (N := some 63) #[true, true, true, true, true, true, true, false] rfl rfl (one_of HT_.out (by kernel_rfl)) (by decide) (fun K hK => ?_)
                      refine goes_ Try.func126 (by kernel_rfl) rfl #[.int .i64 (wrap64 ((wrap64 ((wrap64 ((wrap64 ((wrap64 (x1_1 + 1)) + 1)) + 1)) + 1)) + 1))] (by rfl) rfl rfl (by (try simp only [List.map_toArray, List.map_cons, List.map_nil]); first | done | rfl | (simp only [List.length_drop, List.length_take]; rfl)) ?_
                      with_reducible refine (laws_markText.calls k1 (wrap64 ((wrap64 ((wrap64 ((wrap64 ((wrap64 (x1_1 + 1)) + 1)) + 1)) + 1)) + 1)) t1293 _ A10.out).mono ?_
                      rintro e w15 ⟨rfl, hb⟩
                      refine ⟨_, rfl, ?_⟩
                      have n0_ := Aside0.mk (below_step (by repeat (first | (with_reducible first | exact HB.out | apply below_alloc | apply pw_below_drewN | apply below_drew1) | exact HB.out)) hb)
                      clear HB
                      have HB := n0_
                      clear n0_
                      (try clear hb)
                      (try clear hb2)
                      (try clear hk)
                      (try clear hi)
                      refine hK.out _ _ ⟨((HB.out.cell (World.block_lt_of_cell? w _ hw1292_0)).trans hw1292_0), ((HB.out.cell (World.block_lt_of_cell? w _ hw1292_1)).trans hw1292_1), ((HB.out.cell (World.block_lt_of_cell? w _ hw1292_2)).trans hw1292_2), ((HB.out.cell (World.block_lt_of_cell? w _ hw1292_3)).trans hw1292_3), ((HB.out.cell (World.block_lt_of_cell? w _ hw1292_4)).trans hw1292_4), ((HB.out.cell (World.block_lt_of_cell? w _ hw1292_5)).trans hw1292_5)⟩ (fun hHeld => ?_)
                      clear hK K
                      refine norm_ (a' := ?_) ?_ ?_
                      rotate_left
                      · show Act.put _ (some 63) _ = _
                        simp only [Act.put, List.setIfInBounds_toArray, List.set_cons_zero, List.set_cons_succ, i64_w, i32_w]
                        rfl
                      refine pure_ (i := 7) (N := some 64) (v := ?_) (a' := ?_) #[true, true, true, true, true, true, true, true] rfl rfl (any_of HT_.out (by kernel_rfl)) (fun _ _ _ h => h) (Or.inl ⟨by rfl, ?_⟩) ?_ ?_
                      rotate_left
                      · intro w'
                        go_simp
                        with_reducible rfl
                      rotate_left
                      · simp only [Act.put, List.setIfInBounds_toArray, List.set_cons_zero, List.set_cons_succ, i64_w, i32_w]
                        rfl
                      refine done_ (done_of HT_.out (by kernel_rfl)) ?_
                      try go_wp2
                      go_ret
                      exact ⟨by first | rfl | (simp [errW_none, errW_some] <;> rfl) | (simp [*, errW_none, errW_some] <;> rfl), by repeat (first | (with_reducible first | exact HB.out | apply below_alloc | apply pw_below_drewN | apply below_drew1) | exact HB.out)⟩
                  · rw [if_neg c9] at H
                    have c9b0 : (((rd_T33 l0 x5_1).f4) == (wrap64 ((wrap64 ((wrap64 ((wrap64 (x1_1 + 1)) + 1)) + 1)) + 1))) = false := beq_eq_false_iff_ne.mpr c9
                    have c9b1 : (((rd_T33 l0 x5_1).f4) != (wrap64 ((wrap64 ((wrap64 ((wrap64 (x1_1 + 1)) + 1)) + 1)) + 1))) = true := bne_iff_ne.mpr c9
                    obtain rfl := Option.some.inj H
                    have p1287 : 0 ≤ (x5_1 : Int) := of_decide_eq_true (by first | (with_reducible assumption) | assumption)
                    have q1287 : x5_1 < (l0.length : Int) := of_decide_eq_true (by first | (with_reducible assumption) | assumption)
                    obtain ⟨ad1287, e1287, hx1287_0, hx1287_1, hx1287_2, hx1287_3, hx1287_4, hx1287_5⟩ := at_T33 HR0.out x5_1 p1287 q1287
                    cases e1287
                    replace hx1287_0 := (HB.out.cell (World.block_lt_of_cell? w _ hx1287_0)).trans hx1287_0
                    replace hx1287_1 := (HB.out.cell (World.block_lt_of_cell? w _ hx1287_1)).trans hx1287_1
                    replace hx1287_2 := (HB.out.cell (World.block_lt_of_cell? w _ hx1287_2)).trans hx1287_2
                    replace hx1287_3 := (HB.out.cell (World.block_lt_of_cell? w _ hx1287_3)).trans hx1287_3
                    replace hx1287_4 := (HB.out.cell (World.block_lt_of_cell? w _ hx1287_4)).trans hx1287_4
                    replace hx1287_5 := (HB.out.cell (World.block_lt_of_cell? w _ hx1287_5)).trans hx1287_5
                    replace p1287 := eq_true p1287
                    replace q1287 := eq_true q1287
                    have p1288 : 0 ≤ (x5_1 : Int) := of_decide_eq_true (by first | (with_reducible assumption) | assumption)
                    have q1288 : x5_1 < (l0.length : Int) := of_decide_eq_true (by first | (with_reducible assumption) | assumption)
                    obtain ⟨ad1288, e1288, hx1288_0, hx1288_1, hx1288_2, hx1288_3, hx1288_4, hx1288_5⟩ := at_T33 HR0.out x5_1 p1288 q1288
                    obtain rfl : ad1287 = ad1288 := (by injection e1288)
                    replace hx1288_0 := (HB.out.cell (World.block_lt_of_cell? w _ hx1288_0)).trans hx1288_0
                    replace hx1288_1 := (HB.out.cell (World.block_lt_of_cell? w _ hx1288_1)).trans hx1288_1
                    replace hx1288_2 := (HB.out.cell (World.block_lt_of_cell? w _ hx1288_2)).trans hx1288_2
                    replace hx1288_3 := (HB.out.cell (World.block_lt_of_cell? w _ hx1288_3)).trans hx1288_3
                    replace hx1288_4 := (HB.out.cell (World.block_lt_of_cell? w _ hx1288_4)).trans hx1288_4
                    replace hx1288_5 := (HB.out.cell (World.block_lt_of_cell? w _ hx1288_5)).trans hx1288_5
                    replace p1288 := eq_true p1288
                    replace q1288 := eq_true q1288
                    have p1289 : 0 ≤ (x5_1 : Int) := of_decide_eq_true (by first | (with_reducible assumption) | assumption)
                    have q1289 : x5_1 < (l0.length : Int) := of_decide_eq_true (by first | (with_reducible assumption) | assumption)
                    obtain ⟨ad1289, e1289, hx1289_0, hx1289_1, hx1289_2, hx1289_3, hx1289_4, hx1289_5⟩ := at_T33 HR0.out x5_1 p1289 q1289
                    obtain rfl : ad1287 = ad1289 := (by injection e1289)
                    replace hx1289_0 := (HB.out.cell (World.block_lt_of_cell? w _ hx1289_0)).trans hx1289_0
                    replace hx1289_1 := (HB.out.cell (World.block_lt_of_cell? w _ hx1289_1)).trans hx1289_1
                    replace hx1289_2 := (HB.out.cell (World.block_lt_of_cell? w _ hx1289_2)).trans hx1289_2
                    replace hx1289_3 := (HB.out.cell (World.block_lt_of_cell? w _ hx1289_3)).trans hx1289_3
                    replace hx1289_4 := (HB.out.cell (World.block_lt_of_cell? w _ hx1289_4)).trans hx1289_4
                    replace hx1289_5 := (HB.out.cell (World.block_lt_of_cell? w _ hx1289_5)).trans hx1289_5
                    replace p1289 := eq_true p1289
                    replace q1289 := eq_true q1289
                    have p1290 : 0 ≤ (x5_1 : Int) := of_decide_eq_true (by first | (with_reducible assumption) | assumption)
                    have q1290 : x5_1 < (l0.length : Int) := of_decide_eq_true (by first | (with_reducible assumption) | assumption)
                    obtain ⟨ad1290, e1290, hx1290_0, hx1290_1, hx1290_2, hx1290_3, hx1290_4, hx1290_5⟩ := at_T33 HR0.out x5_1 p1290 q1290
                    obtain rfl : ad1287 = ad1290 := (by injection e1290)
                    replace hx1290_0 := (HB.out.cell (World.block_lt_of_cell? w _ hx1290_0)).trans hx1290_0
                    replace hx1290_1 := (HB.out.cell (World.block_lt_of_cell? w _ hx1290_1)).trans hx1290_1
                    replace hx1290_2 := (HB.out.cell (World.block_lt_of_cell? w _ hx1290_2)).trans hx1290_2
                    replace hx1290_3 := (HB.out.cell (World.block_lt_of_cell? w _ hx1290_3)).trans hx1290_3
                    replace hx1290_4 := (HB.out.cell (World.block_lt_of_cell? w _ hx1290_4)).trans hx1290_4
                    replace hx1290_5 := (HB.out.cell (World.block_lt_of_cell? w _ hx1290_5)).trans hx1290_5
                    replace p1290 := eq_true p1290
                    replace q1290 := eq_true q1290
                    have p1291 : 0 ≤ (x5_1 : Int) := of_decide_eq_true (by first | (with_reducible assumption) | assumption)
                    have q1291 : x5_1 < (l0.length : Int) := of_decide_eq_true (by first | (with_reducible assumption) | assumption)
                    obtain ⟨ad1291, e1291, hx1291_0, hx1291_1, hx1291_2, hx1291_3, hx1291_4, hx1291_5⟩ := at_T33 HR0.out x5_1 p1291 q1291
                    obtain rfl : ad1287 = ad1291 := (by injection e1291)
                    replace hx1291_0 := (HB.out.cell (World.block_lt_of_cell? w _ hx1291_0)).trans hx1291_0
                    replace hx1291_1 := (HB.out.cell (World.block_lt_of_cell? w _ hx1291_1)).trans hx1291_1
                    replace hx1291_2 := (HB.out.cell (World.block_lt_of_cell? w _ hx1291_2)).trans hx1291_2
                    replace hx1291_3 := (HB.out.cell (World.block_lt_of_cell? w _ hx1291_3)).trans hx1291_3
                    replace hx1291_4 := (HB.out.cell (World.block_lt_of_cell? w _ hx1291_4)).trans hx1291_4
                    replace hx1291_5 := (HB.out.cell (World.block_lt_of_cell? w _ hx1291_5)).trans hx1291_5
                    replace p1291 := eq_true p1291
                    replace q1291 := eq_true q1291
                    go_wp2
                    go_ret
                    exact ⟨by first | rfl | (simp [errW_none, errW_some] <;> rfl) | (simp [*, errW_none, errW_some] <;> rfl), by repeat (first | (with_reducible first | exact HB.out | apply below_alloc | apply pw_below_drewN | apply below_drew1) | exact HB.out)⟩
                · rw [if_neg c8] at H
                  have c8b0 : (((rd_T33 l0 x5_1).f3) == (wrap64 ((wrap64 ((wrap64 (x1_1 + 1)) + 1)) + 1))) = false := beq_eq_false_iff_ne.mpr c8
                  have c8b1 : (((rd_T33 l0 x5_1).f3) != (wrap64 ((wrap64 ((wrap64 (x1_1 + 1)) + 1)) + 1))) = true := bne_iff_ne.mpr c8
                  obtain rfl := Option.some.inj H
                  have p1287 : 0 ≤ (x5_1 : Int) := of_decide_eq_true (by first | (with_reducible assumption) | assumption)
                  have q1287 : x5_1 < (l0.length : Int) := of_decide_eq_true (by first | (with_reducible assumption) | assumption)
                  obtain ⟨ad1287, e1287, hx1287_0, hx1287_1, hx1287_2, hx1287_3, hx1287_4, hx1287_5⟩ := at_T33 HR0.out x5_1 p1287 q1287
                  cases e1287
                  replace hx1287_0 := (HB.out.cell (World.block_lt_of_cell? w _ hx1287_0)).trans hx1287_0
                  replace hx1287_1 := (HB.out.cell (World.block_lt_of_cell? w _ hx1287_1)).trans hx1287_1
                  replace hx1287_2 := (HB.out.cell (World.block_lt_of_cell? w _ hx1287_2)).trans hx1287_2
                  replace hx1287_3 := (HB.out.cell (World.block_lt_of_cell? w _ hx1287_3)).trans hx1287_3
                  replace hx1287_4 := (HB.out.cell (World.block_lt_of_cell? w _ hx1287_4)).trans hx1287_4
                  replace hx1287_5 := (HB.out.cell (World.block_lt_of_cell? w _ hx1287_5)).trans hx1287_5
                  replace p1287 := eq_true p1287
                  replace q1287 := eq_true q1287
                  have p1288 : 0 ≤ (x5_1 : Int) := of_decide_eq_true (by first | (with_reducible assumption) | assumption)
                  have q1288 : x5_1 < (l0.length : Int) := of_decide_eq_true (by first | (with_reducible assumption) | assumption)
                  obtain ⟨ad1288, e1288, hx1288_0, hx1288_1, hx1288_2, hx1288_3, hx1288_4, hx1288_5⟩ := at_T33 HR0.out x5_1 p1288 q1288
                  obtain rfl : ad1287 = ad1288 := (by injection e1288)
                  replace hx1288_0 := (HB.out.cell (World.block_lt_of_cell? w _ hx1288_0)).trans hx1288_0
                  replace hx1288_1 := (HB.out.cell (World.block_lt_of_cell? w _ hx1288_1)).trans hx1288_1
                  replace hx1288_2 := (HB.out.cell (World.block_lt_of_cell? w _ hx1288_2)).trans hx1288_2
                  replace hx1288_3 := (HB.out.cell (World.block_lt_of_cell? w _ hx1288_3)).trans hx1288_3
                  replace hx1288_4 := (HB.out.cell (World.block_lt_of_cell? w _ hx1288_4)).trans hx1288_4
                  replace hx1288_5 := (HB.out.cell (World.block_lt_of_cell? w _ hx1288_5)).trans hx1288_5
                  replace p1288 := eq_true p1288
                  replace q1288 := eq_true q1288
                  have p1289 : 0 ≤ (x5_1 : Int) := of_decide_eq_true (by first | (with_reducible assumption) | assumption)
                  have q1289 : x5_1 < (l0.length : Int) := of_decide_eq_true (by first | (with_reducible assumption) | assumption)
                  obtain ⟨ad1289, e1289, hx1289_0, hx1289_1, hx1289_2, hx1289_3, hx1289_4, hx1289_5⟩ := at_T33 HR0.out x5_1 p1289 q1289
                  obtain rfl : ad1287 = ad1289 := (by injection e1289)
                  replace hx1289_0 := (HB.out.cell (World.block_lt_of_cell? w _ hx1289_0)).trans hx1289_0
                  replace hx1289_1 := (HB.out.cell (World.block_lt_of_cell? w _ hx1289_1)).trans hx1289_1
                  replace hx1289_2 := (HB.out.cell (World.block_lt_of_cell? w _ hx1289_2)).trans hx1289_2
                  replace hx1289_3 := (HB.out.cell (World.block_lt_of_cell? w _ hx1289_3)).trans hx1289_3
                  replace hx1289_4 := (HB.out.cell (World.block_lt_of_cell? w _ hx1289_4)).trans hx1289_4
                  replace hx1289_5 := (HB.out.cell (World.block_lt_of_cell? w _ hx1289_5)).trans hx1289_5
                  replace p1289 := eq_true p1289
                  replace q1289 := eq_true q1289
                  have p1290 : 0 ≤ (x5_1 : Int) := of_decide_eq_true (by first | (with_reducible assumption) | assumption)
                  have q1290 : x5_1 < (l0.length : Int) := of_decide_eq_true (by first | (with_reducible assumption) | assumption)
                  obtain ⟨ad1290, e1290, hx1290_0, hx1290_1, hx1290_2, hx1290_3, hx1290_4, hx1290_5⟩ := at_T33 HR0.out x5_1 p1290 q1290
                  obtain rfl : ad1287 = ad1290 := (by injection e1290)
                  replace hx1290_0 := (HB.out.cell (World.block_lt_of_cell? w _ hx1290_0)).trans hx1290_0
                  replace hx1290_1 := (HB.out.cell (World.block_lt_of_cell? w _ hx1290_1)).trans hx1290_1
                  replace hx1290_2 := (HB.out.cell (World.block_lt_of_cell? w _ hx1290_2)).trans hx1290_2
                  replace hx1290_3 := (HB.out.cell (World.block_lt_of_cell? w _ hx1290_3)).trans hx1290_3
                  replace hx1290_4 := (HB.out.cell (World.block_lt_of_cell? w _ hx1290_4)).trans hx1290_4
                  replace hx1290_5 := (HB.out.cell (World.block_lt_of_cell? w _ hx1290_5)).trans hx1290_5
                  replace p1290 := eq_true p1290
                  replace q1290 := eq_true q1290
                  go_wp2
                  go_ret
                  exact ⟨by first | rfl | (simp [errW_none, errW_some] <;> rfl) | (simp [*, errW_none, errW_some] <;> rfl), by repeat (first | (with_reducible first | exact HB.out | apply below_alloc | apply pw_below_drewN | apply below_drew1) | exact HB.out)⟩
              · rw [if_neg c7] at H
                have c7b0 : (((rd_T33 l0 x5_1).f2) == (wrap64 ((wrap64 (x1_1 + 1)) + 1))) = false := beq_eq_false_iff_ne.mpr c7
                have c7b1 : (((rd_T33 l0 x5_1).f2) != (wrap64 ((wrap64 (x1_1 + 1)) + 1))) = true := bne_iff_ne.mpr c7
                obtain rfl := Option.some.inj H
                have p1287 : 0 ≤ (x5_1 : Int) := of_decide_eq_true (by first | (with_reducible assumption) | assumption)
                have q1287 : x5_1 < (l0.length : Int) := of_decide_eq_true (by first | (with_reducible assumption) | assumption)
                obtain ⟨ad1287, e1287, hx1287_0, hx1287_1, hx1287_2, hx1287_3, hx1287_4, hx1287_5⟩ := at_T33 HR0.out x5_1 p1287 q1287
                cases e1287
                replace hx1287_0 := (HB.out.cell (World.block_lt_of_cell? w _ hx1287_0)).trans hx1287_0
                replace hx1287_1 := (HB.out.cell (World.block_lt_of_cell? w _ hx1287_1)).trans hx1287_1
                replace hx1287_2 := (HB.out.cell (World.block_lt_of_cell? w _ hx1287_2)).trans hx1287_2
                replace hx1287_3 := (HB.out.cell (World.block_lt_of_cell? w _ hx1287_3)).trans hx1287_3
                replace hx1287_4 := (HB.out.cell (World.block_lt_of_cell? w _ hx1287_4)).trans hx1287_4
                replace hx1287_5 := (HB.out.cell (World.block_lt_of_cell? w _ hx1287_5)).trans hx1287_5
                replace p1287 := eq_true p1287
                replace q1287 := eq_true q1287
                have p1288 : 0 ≤ (x5_1 : Int) := of_decide_eq_true (by first | (with_reducible assumption) | assumption)
                have q1288 : x5_1 < (l0.length : Int) := of_decide_eq_true (by first | (with_reducible assumption) | assumption)
                obtain ⟨ad1288, e1288, hx1288_0, hx1288_1, hx1288_2, hx1288_3, hx1288_4, hx1288_5⟩ := at_T33 HR0.out x5_1 p1288 q1288
                obtain rfl : ad1287 = ad1288 := (by injection e1288)
                replace hx1288_0 := (HB.out.cell (World.block_lt_of_cell? w _ hx1288_0)).trans hx1288_0
                replace hx1288_1 := (HB.out.cell (World.block_lt_of_cell? w _ hx1288_1)).trans hx1288_1
                replace hx1288_2 := (HB.out.cell (World.block_lt_of_cell? w _ hx1288_2)).trans hx1288_2
                replace hx1288_3 := (HB.out.cell (World.block_lt_of_cell? w _ hx1288_3)).trans hx1288_3
                replace hx1288_4 := (HB.out.cell (World.block_lt_of_cell? w _ hx1288_4)).trans hx1288_4
                replace hx1288_5 := (HB.out.cell (World.block_lt_of_cell? w _ hx1288_5)).trans hx1288_5
                replace p1288 := eq_true p1288
                replace q1288 := eq_true q1288
                have p1289 : 0 ≤ (x5_1 : Int) := of_decide_eq_true (by first | (with_reducible assumption) | assumption)
                have q1289 : x5_1 < (l0.length : Int) := of_decide_eq_true (by first | (with_reducible assumption) | assumption)
                obtain ⟨ad1289, e1289, hx1289_0, hx1289_1, hx1289_2, hx1289_3, hx1289_4, hx1289_5⟩ := at_T33 HR0.out x5_1 p1289 q1289
                obtain rfl : ad1287 = ad1289 := (by injection e1289)
                replace hx1289_0 := (HB.out.cell (World.block_lt_of_cell? w _ hx1289_0)).trans hx1289_0
                replace hx1289_1 := (HB.out.cell (World.block_lt_of_cell? w _ hx1289_1)).trans hx1289_1
                replace hx1289_2 := (HB.out.cell (World.block_lt_of_cell? w _ hx1289_2)).trans hx1289_2
                replace hx1289_3 := (HB.out.cell (World.block_lt_of_cell? w _ hx1289_3)).trans hx1289_3
                replace hx1289_4 := (HB.out.cell (World.block_lt_of_cell? w _ hx1289_4)).trans hx1289_4
                replace hx1289_5 := (HB.out.cell (World.block_lt_of_cell? w _ hx1289_5)).trans hx1289_5
                replace p1289 := eq_true p1289
                replace q1289 := eq_true q1289
                go_wp2
                go_ret
                exact ⟨by first | rfl | (simp [errW_none, errW_some] <;> rfl) | (simp [*, errW_none, errW_some] <;> rfl), by repeat (first | (with_reducible first | exact HB.out | apply below_alloc | apply pw_below_drewN | apply below_drew1) | exact HB.out)⟩
            · rw [if_neg c6] at H
              have c6b0 : (((rd_T33 l0 x5_1).f1) == (wrap64 (x1_1 + 1))) = false := beq_eq_false_iff_ne.mpr c6
              have c6b1 : (((rd_T33 l0 x5_1).f1) != (wrap64 (x1_1 + 1))) = true := bne_iff_ne.mpr c6
              obtain rfl := Option.some.inj H
              have p1287 : 0 ≤ (x5_1 : Int) := of_decide_eq_true (by first | (with_reducible assumption) | assumption)
              have q1287 : x5_1 < (l0.length : Int) := of_decide_eq_true (by first | (with_reducible assumption) | assumption)
              obtain ⟨ad1287, e1287, hx1287_0, hx1287_1, hx1287_2, hx1287_3, hx1287_4, hx1287_5⟩ := at_T33 HR0.out x5_1 p1287 q1287
              cases e1287
              replace hx1287_0 := (HB.out.cell (World.block_lt_of_cell? w _ hx1287_0)).trans hx1287_0
              replace hx1287_1 := (HB.out.cell (World.block_lt_of_cell? w _ hx1287_1)).trans hx1287_1
              replace hx1287_2 := (HB.out.cell (World.block_lt_of_cell? w _ hx1287_2)).trans hx1287_2
              replace hx1287_3 := (HB.out.cell (World.block_lt_of_cell? w _ hx1287_3)).trans hx1287_3
              replace hx1287_4 := (HB.out.cell (World.block_lt_of_cell? w _ hx1287_4)).trans hx1287_4
              replace hx1287_5 := (HB.out.cell (World.block_lt_of_cell? w _ hx1287_5)).trans hx1287_5
              replace p1287 := eq_true p1287
              replace q1287 := eq_true q1287
              have p1288 : 0 ≤ (x5_1 : Int) := of_decide_eq_true (by first | (with_reducible assumption) | assumption)
              have q1288 : x5_1 < (l0.length : Int) := of_decide_eq_true (by first | (with_reducible assumption) | assumption)
              obtain ⟨ad1288, e1288, hx1288_0, hx1288_1, hx1288_2, hx1288_3, hx1288_4, hx1288_5⟩ := at_T33 HR0.out x5_1 p1288 q1288
              obtain rfl : ad1287 = ad1288 := (by injection e1288)
              replace hx1288_0 := (HB.out.cell (World.block_lt_of_cell? w _ hx1288_0)).trans hx1288_0
              replace hx1288_1 := (HB.out.cell (World.block_lt_of_cell? w _ hx1288_1)).trans hx1288_1
              replace hx1288_2 := (HB.out.cell (World.block_lt_of_cell? w _ hx1288_2)).trans hx1288_2
              replace hx1288_3 := (HB.out.cell (World.block_lt_of_cell? w _ hx1288_3)).trans hx1288_3
              replace hx1288_4 := (HB.out.cell (World.block_lt_of_cell? w _ hx1288_4)).trans hx1288_4
              replace hx1288_5 := (HB.out.cell (World.block_lt_of_cell? w _ hx1288_5)).trans hx1288_5
              replace p1288 := eq_true p1288
              replace q1288 := eq_true q1288
              go_wp2
              go_ret
              exact ⟨by first | rfl | (simp [errW_none, errW_some] <;> rfl) | (simp [*, errW_none, errW_some] <;> rfl), by repeat (first | (with_reducible first | exact HB.out | apply below_alloc | apply pw_below_drewN | apply below_drew1) | exact HB.out)⟩
          · rw [if_neg c5] at H
            have c5b0 : (((rd_T33 l0 x5_1).f0) == x1_1) = false := beq_eq_false_iff_ne.mpr c5
            have c5b1 : (((rd_T33 l0 x5_1).f0) != x1_1) = true := bne_iff_ne.mpr c5
            obtain rfl := Option.some.inj H
            have p1287 : 0 ≤ (x5_1 : Int) := of_decide_eq_true (by first | (with_reducible assumption) | assumption)
            have q1287 : x5_1 < (l0.length : Int) := of_decide_eq_true (by first | (with_reducible assumption) | assumption)
            obtain ⟨ad1287, e1287, hx1287_0, hx1287_1, hx1287_2, hx1287_3, hx1287_4, hx1287_5⟩ := at_T33 HR0.out x5_1 p1287 q1287
            cases e1287
            replace hx1287_0 := (HB.out.cell (World.block_lt_of_cell? w _ hx1287_0)).trans hx1287_0
            replace hx1287_1 := (HB.out.cell (World.block_lt_of_cell? w _ hx1287_1)).trans hx1287_1
            replace hx1287_2 := (HB.out.cell (World.block_lt_of_cell? w _ hx1287_2)).trans hx1287_2
            replace hx1287_3 := (HB.out.cell (World.block_lt_of_cell? w _ hx1287_3)).trans hx1287_3
            replace hx1287_4 := (HB.out.cell (World.block_lt_of_cell? w _ hx1287_4)).trans hx1287_4
            replace hx1287_5 := (HB.out.cell (World.block_lt_of_cell? w _ hx1287_5)).trans hx1287_5
            replace p1287 := eq_true p1287
            replace q1287 := eq_true q1287
            go_wp2
            go_ret
            exact ⟨by first | rfl | (simp [errW_none, errW_some] <;> rfl) | (simp [*, errW_none, errW_some] <;> rfl), by repeat (first | (with_reducible first | exact HB.out | apply below_alloc | apply pw_below_drewN | apply below_drew1) | exact HB.out)⟩
        · rw [if_neg c4] at H
          exact absurd H (by simp)
      · rw [if_neg c3] at H
        have c3b0 : decide (x5_1 < (l0.length : Int)) = false := decide_eq_false c3
        clear c3
        obtain rfl := Option.some.inj H
        go_wp2
        go_ret
        exact ⟨by first | rfl | (simp [errW_none, errW_some] <;> rfl) | (simp [*, errW_none, errW_some] <;> rfl), by repeat (first | (with_reducible first | exact HB.out | apply below_alloc | apply pw_below_drewN | apply below_drew1) | exact HB.out)⟩

end Go.Proofs.Ytdolplcbokioaaa.PB

/- Functions of the translation as plain Lean functions, and for each that its call comes to just what its Lean function answers; its conditions stand in each theorem. Written by a program of this session. -/
namespace Go.Proofs.Ytdolplcbokioaaa.PB
open Go.RowKit Go.Proofs.YtdolplcbokioaaaW.PrintWords Go.Proofs.YtdolplcbokioaaaW.PrintLast Go.Proofs.YtdolplcbokioaaaW.PrintMore
attribute [local go_sem] max2_int min2_int max_two min_two max_three min_three max_four min_four   -- for this text's walks alone
set_option linter.unusedVariables false
set_option linter.unusedSimpArgs false

/-! ### laws_FnExactTxPages: function 9 -/
mutual
def laws_FnExactTxPages.j0 : Nat → Int → Int → List (S160) → List (S33) → Bool → List (S90) → List (S33) → Bool → Bool → Option (Bool)
  | 0, _, _, _, _, _, _, _, _, _ => none
  | k + 1, x0, x1, x2, x8, x9, x10, x11, x12, x48 => if x48 = true then (some false) else ((laws_toRecS.f k x2).bind fun t1310 => ((laws_eqRecS.f k x10 t1310).bind fun t1313 => (if t1313 = true then ((laws_markRecS.f k x10 1).bind fun bt1314 => (if bt1314.1 < 0 then (laws_FnExactTxPages.j1 k x0 x1 x2 x8 x9 x11 true) else ((laws_eqPageS.f k x11 x8).bind fun t1316 => (if t1316 = true then (laws_FnExactTxPages.j1 k x0 x1 x2 x8 x9 x11 (x12 != x9)) else (laws_FnExactTxPages.j1 k x0 x1 x2 x8 x9 x11 true))))) else (some false))))
def laws_FnExactTxPages.j1 : Nat → Int → Int → List (S160) → List (S33) → Bool → List (S33) → Bool → Option (Bool)
  | 0, _, _, _, _, _, _, _ => none
  | k + 1, x0, x1, x2, x8, x9, x11, x69 => if x69 = true then (some false) else ((laws_markPageS.f k x11 1).bind fun bt1317 => ((laws_heldPageS.f k bt1317.2 1).bind fun t1319 => (if t1319 < 0 then (some false) else (if t1319 = bt1317.1 then ((laws_toRecS.f k x2).bind fun t1320 => ((impl_TxPages.f k x0 x1 t1320).bind fun bt1323 => ((laws_eqPageS.f k bt1323.1 x8).bind fun t1327 => (if t1327 = true then (laws_FnExactTxPages.j2 k bt1317.2 bt1317.1 (bt1323.2 != x9)) else (laws_FnExactTxPages.j2 k bt1317.2 bt1317.1 true))))) else (some false)))))
def laws_FnExactTxPages.j2 : Nat → List (S33) → Int → Bool → Option (Bool)
  | 0, _, _, _ => none
  | k + 1, x11, x14, x97 => if x97 = true then (some false) else ((laws_heldPageS.f k x11 1).bind fun t1328 => (if t1328 < 0 then (some false) else (if t1328 = x14 then (some true) else (some false))))
end
def laws_FnExactTxPages.f (k : Nat) (a0 : Int) (a1 : Int) (l2 : List (S160)) : Option (Bool) := (laws_szRecS.f l2 1048576).bind fun t1294 => (if t1294 < 0 then (some true) else ((laws_toRecS.f k l2).bind fun t1295 => ((spec_TxPages.f k a0 a1 t1295).bind fun bt1298 => ((laws_toRecS.f k l2).bind fun t1302 => ((impl_TxPages.f k a0 a1 t1302).bind fun bt1305 => ((laws_eqPageS.f k bt1305.1 bt1298.1).bind fun t1309 => (if t1309 = true then (laws_FnExactTxPages.j0 k a0 a1 l2 bt1298.1 bt1298.2 t1302 bt1305.1 bt1305.2 (bt1305.2 != bt1298.2)) else (laws_FnExactTxPages.j0 k a0 a1 l2 bt1298.1 bt1298.2 t1302 bt1305.1 bt1305.2 true))))))))
theorem laws_FnExactTxPages.mono_l : ∀ k, (∀ y0 y1 y2 y3 y4 y5 y6 y7 y8, LeO (laws_FnExactTxPages.j0 k y0 y1 y2 y3 y4 y5 y6 y7 y8) (laws_FnExactTxPages.j0 (k + 1) y0 y1 y2 y3 y4 y5 y6 y7 y8)) ∧ (∀ y0 y1 y2 y3 y4 y5 y6, LeO (laws_FnExactTxPages.j1 k y0 y1 y2 y3 y4 y5 y6) (laws_FnExactTxPages.j1 (k + 1) y0 y1 y2 y3 y4 y5 y6)) ∧ (∀ y0 y1 y2, LeO (laws_FnExactTxPages.j2 k y0 y1 y2) (laws_FnExactTxPages.j2 (k + 1) y0 y1 y2))
  | 0 => ⟨fun _ _ _ _ _ _ _ _ _ r h => by simp [laws_FnExactTxPages.j0] at h, fun _ _ _ _ _ _ _ r h => by simp [laws_FnExactTxPages.j1] at h, fun _ _ _ r h => by simp [laws_FnExactTxPages.j2] at h⟩
  | k + 1 => by
    obtain ⟨ih0, ih1, ih2⟩ := laws_FnExactTxPages.mono_l k
    refine ⟨?_, ?_, ?_⟩
    · intro y0 y1 y2 y3 y4 y5 y6 y7 y8
      unfold laws_FnExactTxPages.j0
      repeat' first
      | (with_reducible exact ih0 _ _ _ _ _ _ _ _ _)
      | (with_reducible exact ih1 _ _ _ _ _ _ _)
      | (with_reducible exact ih2 _ _ _)
      | (with_reducible exact impl_TxPages.mono _ _ _ _)
      | (with_reducible exact laws_eqPageS.mono _ _ _)
      | (with_reducible exact laws_eqRecS.mono _ _ _)
      | (with_reducible exact laws_heldPageS.mono _ _ _)
      | (with_reducible exact laws_markPageS.mono _ _ _)
      | (with_reducible exact laws_markRecS.mono _ _ _)
      | (with_reducible exact laws_toRecS.mono _ _)
      | (with_reducible exact spec_TxPages.mono _ _ _ _)
      | (with_reducible exact LeO.refl _)
      | (with_reducible exact LeO.none _)
      | (with_reducible refine LeO.ite ?_ ?_)
      | (with_reducible refine LeO.bind ?_ (fun _ => ?_))
      | exact ih0 _ _ _ _ _ _ _ _ _
      | exact ih1 _ _ _ _ _ _ _
      | exact ih2 _ _ _
      | exact impl_TxPages.mono _ _ _ _
      | exact laws_eqPageS.mono _ _ _
      | exact laws_eqRecS.mono _ _ _
      | exact laws_heldPageS.mono _ _ _
      | exact laws_markPageS.mono _ _ _
      | exact laws_markRecS.mono _ _ _
      | exact laws_toRecS.mono _ _
      | exact spec_TxPages.mono _ _ _ _
      | exact LeO.none _
      | refine LeO.ite ?_ ?_
      | refine LeO.bind ?_ (fun _ => ?_)
    · intro y0 y1 y2 y3 y4 y5 y6
      unfold laws_FnExactTxPages.j1
      repeat' first
      | (with_reducible exact ih0 _ _ _ _ _ _ _ _ _)
      | (with_reducible exact ih1 _ _ _ _ _ _ _)
      | (with_reducible exact ih2 _ _ _)
      | (with_reducible exact impl_TxPages.mono _ _ _ _)
      | (with_reducible exact laws_eqPageS.mono _ _ _)
      | (with_reducible exact laws_eqRecS.mono _ _ _)
      | (with_reducible exact laws_heldPageS.mono _ _ _)
      | (with_reducible exact laws_markPageS.mono _ _ _)
      | (with_reducible exact laws_markRecS.mono _ _ _)
      | (with_reducible exact laws_toRecS.mono _ _)
      | (with_reducible exact spec_TxPages.mono _ _ _ _)
      | (with_reducible exact LeO.refl _)
      | (with_reducible exact LeO.none _)
      | (with_reducible refine LeO.ite ?_ ?_)
      | (with_reducible refine LeO.bind ?_ (fun _ => ?_))
      | exact ih0 _ _ _ _ _ _ _ _ _
      | exact ih1 _ _ _ _ _ _ _
      | exact ih2 _ _ _
      | exact impl_TxPages.mono _ _ _ _
      | exact laws_eqPageS.mono _ _ _
      | exact laws_eqRecS.mono _ _ _
      | exact laws_heldPageS.mono _ _ _
      | exact laws_markPageS.mono _ _ _
      | exact laws_markRecS.mono _ _ _
      | exact laws_toRecS.mono _ _
      | exact spec_TxPages.mono _ _ _ _
      | exact LeO.none _
      | refine LeO.ite ?_ ?_
      | refine LeO.bind ?_ (fun _ => ?_)
    · intro y0 y1 y2
      unfold laws_FnExactTxPages.j2
      repeat' first
      | (with_reducible exact ih0 _ _ _ _ _ _ _ _ _)
      | (with_reducible exact ih1 _ _ _ _ _ _ _)
      | (with_reducible exact ih2 _ _ _)
      | (with_reducible exact impl_TxPages.mono _ _ _ _)
      | (with_reducible exact laws_eqPageS.mono _ _ _)
      | (with_reducible exact laws_eqRecS.mono _ _ _)
      | (with_reducible exact laws_heldPageS.mono _ _ _)
      | (with_reducible exact laws_markPageS.mono _ _ _)
      | (with_reducible exact laws_markRecS.mono _ _ _)
      | (with_reducible exact laws_toRecS.mono _ _)
      | (with_reducible exact spec_TxPages.mono _ _ _ _)
      | (with_reducible exact LeO.refl _)
      | (with_reducible exact LeO.none _)
      | (with_reducible refine LeO.ite ?_ ?_)
      | (with_reducible refine LeO.bind ?_ (fun _ => ?_))
      | exact ih0 _ _ _ _ _ _ _ _ _
      | exact ih1 _ _ _ _ _ _ _
      | exact ih2 _ _ _
      | exact impl_TxPages.mono _ _ _ _
      | exact laws_eqPageS.mono _ _ _
      | exact laws_eqRecS.mono _ _ _
      | exact laws_heldPageS.mono _ _ _
      | exact laws_markPageS.mono _ _ _
      | exact laws_markRecS.mono _ _ _
      | exact laws_toRecS.mono _ _
      | exact spec_TxPages.mono _ _ _ _
      | exact LeO.none _
      | refine LeO.ite ?_ ?_
      | refine LeO.bind ?_ (fun _ => ?_)
theorem laws_FnExactTxPages.mono : ∀ a0 a1 a2 k, LeO (laws_FnExactTxPages.f k a0 a1 a2) (laws_FnExactTxPages.f (k + 1) a0 a1 a2) := by
  intro a0 a1 a2 k
  obtain ⟨ih0, ih1, ih2⟩ := laws_FnExactTxPages.mono_l k
  unfold laws_FnExactTxPages.f
  repeat' first
      | (with_reducible exact ih0 _ _ _ _ _ _ _ _ _)
      | (with_reducible exact ih1 _ _ _ _ _ _ _)
      | (with_reducible exact ih2 _ _ _)
      | (with_reducible exact impl_TxPages.mono _ _ _ _)
      | (with_reducible exact laws_eqPageS.mono _ _ _)
      | (with_reducible exact laws_eqRecS.mono _ _ _)
      | (with_reducible exact laws_heldPageS.mono _ _ _)
      | (with_reducible exact laws_markPageS.mono _ _ _)
      | (with_reducible exact laws_markRecS.mono _ _ _)
      | (with_reducible exact laws_toRecS.mono _ _)
      | (with_reducible exact spec_TxPages.mono _ _ _ _)
      | (with_reducible exact LeO.refl _)
      | (with_reducible exact LeO.none _)
      | (with_reducible refine LeO.ite ?_ ?_)
      | (with_reducible refine LeO.bind ?_ (fun _ => ?_))
      | exact ih0 _ _ _ _ _ _ _ _ _
      | exact ih1 _ _ _ _ _ _ _
      | exact ih2 _ _ _
      | exact impl_TxPages.mono _ _ _ _
      | exact laws_eqPageS.mono _ _ _
      | exact laws_eqRecS.mono _ _ _
      | exact laws_heldPageS.mono _ _ _
      | exact laws_markPageS.mono _ _ _
      | exact laws_markRecS.mono _ _ _
      | exact laws_toRecS.mono _ _
      | exact spec_TxPages.mono _ _ _ _
      | exact LeO.none _
      | refine LeO.ite ?_ ?_
      | refine LeO.bind ?_ (fun _ => ?_)
set_option maxHeartbeats 8000000 in
set_option maxRecDepth 100000 in
theorem laws_FnExactTxPages.calls (k : Nat) (a0 : Int) (a1 : Int) (A2 : Option Addr) (c2 : Nat) (l2 : List (S160)) (r : Bool) (hT : Aside0 (r = true)) (w : World) (hr2 : Kd.C k160 w A2 l2.length l2) (hc2 : l2.length ≤ c2) (h : laws_FnExactTxPages.f k a0 a1 l2 = some r) :
    Calls Try.prog 9 #[.int .i64 a0, .int .i64 a1, .slice A2 l2.length c2] w fun e w' => e = .returned (.bool r) ∧ Below w.heap.size w w' := by
  have HR2 := Aside0.mk hr2
  have HC2 := Aside0.mk hc2
  clear hr2 hc2
  have HB := Aside0.mk (Below.refl w.heap.size w)
  have H : ((laws_szRecS.f l2 1048576).bind fun t1294 => (if t1294 < 0 then (some true) else ((laws_toRecS.f k l2).bind fun t1295 => ((spec_TxPages.f k a0 a1 t1295).bind fun bt1298 => ((laws_toRecS.f k l2).bind fun t1302 => ((impl_TxPages.f k a0 a1 t1302).bind fun bt1305 => ((laws_eqPageS.f k bt1305.1 bt1298.1).bind fun t1309 => (if t1309 = true then (laws_FnExactTxPages.j0 k a0 a1 l2 bt1298.1 bt1298.2 t1302 bt1305.1 bt1305.2 (bt1305.2 != bt1298.2)) else (laws_FnExactTxPages.j0 k a0 a1 l2 bt1298.1 bt1298.2 t1302 bt1305.1 bt1305.2 true))))))))) = some r := h
  clear h
  replace H := Option.bind_eq_some_iff.mp H
  obtain ⟨t1294, A40, H⟩ := H
  replace H : (if t1294 < 0 then (some true) else ((laws_toRecS.f k l2).bind fun t1295 => ((spec_TxPages.f k a0 a1 t1295).bind fun bt1298 => ((laws_toRecS.f k l2).bind fun t1302 => ((impl_TxPages.f k a0 a1 t1302).bind fun bt1305 => ((laws_eqPageS.f k bt1305.1 bt1298.1).bind fun t1309 => (if t1309 = true then (laws_FnExactTxPages.j0 k a0 a1 l2 bt1298.1 bt1298.2 t1302 bt1305.1 bt1305.2 (bt1305.2 != bt1298.2)) else (laws_FnExactTxPages.j0 k a0 a1 l2 bt1298.1 bt1298.2 t1302 bt1305.1 bt1305.2 true)))))))) = some r := H
  have A4 := Aside0.mk A40
  clear A40
  by_cases c5 : t1294 < 0
  · rw [if_pos c5] at H
    have c5b0 : decide (t1294 < 0) = true := decide_eq_true c5
    clear c5
    obtain rfl := Option.some.inj H
    go_enter Try.func9, Try.ntmps9
    go_wp2_with (first | ((with_reducible refine gate_callee (f := 57) rfl ?_); refine goesL_ (some 20) rfl rfl Try.func57 (by kernel_rfl) rfl #[.slice A2 l2.length c2, .int .i64 1048576] rfl (by (try simp only [List.map_toArray, List.map_cons, List.map_nil]); first | done | rfl | (simp only [List.length_drop, List.length_take]; rfl)) ?_; (with_reducible refine (laws_szRecS.calls _ _ l2 1048576 t1294 _ ?side1 ?side2 A4.out).mono ?_); (case side1 => repeat (first | exact HR2.out | (with_reducible refine Kd.C_alloc ?_ _) | (with_reducible refine Kd.C_drewN ?_ _) | (with_reducible refine Kd.C_drew ?_))); (case side2 => exact HC2.out); rintro e w' ⟨rfl, ⟨nd, rfl⟩⟩; refine ⟨_, rfl, ?_⟩))
    go_ret
    exact ⟨by first | rfl | (simp [errW_none, errW_some] <;> rfl) | (simp [*, errW_none, errW_some] <;> rfl), by repeat (first | (with_reducible first | exact HB.out | apply below_alloc | apply pw_below_drewN | apply below_drew1) | exact HB.out)⟩
  · rw [if_neg c5] at H
    have c5b0 : decide (t1294 < 0) = false := decide_eq_false c5
    clear c5
    replace H := Option.bind_eq_some_iff.mp H
    obtain ⟨t1295, A60, H⟩ := H
    replace H : ((spec_TxPages.f k a0 a1 t1295).bind fun bt1298 => ((laws_toRecS.f k l2).bind fun t1302 => ((impl_TxPages.f k a0 a1 t1302).bind fun bt1305 => ((laws_eqPageS.f k bt1305.1 bt1298.1).bind fun t1309 => (if t1309 = true then (laws_FnExactTxPages.j0 k a0 a1 l2 bt1298.1 bt1298.2 t1302 bt1305.1 bt1305.2 (bt1305.2 != bt1298.2)) else (laws_FnExactTxPages.j0 k a0 a1 l2 bt1298.1 bt1298.2 t1302 bt1305.1 bt1305.2 true)))))) = some r := H
    have A6 := Aside0.mk A60
    clear A60
    replace H := Option.bind_eq_some_iff.mp H
    obtain ⟨⟨t1298, t1299⟩, A70, H⟩ := H
    replace H : ((laws_toRecS.f k l2).bind fun t1302 => ((impl_TxPages.f k a0 a1 t1302).bind fun bt1305 => ((laws_eqPageS.f k bt1305.1 t1298).bind fun t1309 => (if t1309 = true then (laws_FnExactTxPages.j0 k a0 a1 l2 t1298 t1299 t1302 bt1305.1 bt1305.2 (bt1305.2 != t1299)) else (laws_FnExactTxPages.j0 k a0 a1 l2 t1298 t1299 t1302 bt1305.1 bt1305.2 true))))) = some r := H
    have A7 := Aside0.mk A70
    clear A70
    replace H := Option.bind_eq_some_iff.mp H
    obtain ⟨t1302, A80, H⟩ := H
    replace H : ((impl_TxPages.f k a0 a1 t1302).bind fun bt1305 => ((laws_eqPageS.f k bt1305.1 t1298).bind fun t1309 => (if t1309 = true then (laws_FnExactTxPages.j0 k a0 a1 l2 t1298 t1299 t1302 bt1305.1 bt1305.2 (bt1305.2 != t1299)) else (laws_FnExactTxPages.j0 k a0 a1 l2 t1298 t1299 t1302 bt1305.1 bt1305.2 true)))) = some r := H
    have A8 := Aside0.mk A80
    clear A80
    replace H := Option.bind_eq_some_iff.mp H
    obtain ⟨⟨t1305, t1306⟩, A90, H⟩ := H
    replace H : ((laws_eqPageS.f k t1305 t1298).bind fun t1309 => (if t1309 = true then (laws_FnExactTxPages.j0 k a0 a1 l2 t1298 t1299 t1302 t1305 t1306 (t1306 != t1299)) else (laws_FnExactTxPages.j0 k a0 a1 l2 t1298 t1299 t1302 t1305 t1306 true))) = some r := H
    have A9 := Aside0.mk A90
    clear A90
    have HC10 := Aside0.mk H
    clear H
    go_enter Try.func9, Try.ntmps9
    go_upto_region 8 with (first | ((with_reducible refine gate_callee (f := 57) rfl ?_); refine goesL_ (some 20) rfl rfl Try.func57 (by kernel_rfl) rfl #[.slice A2 l2.length c2, .int .i64 1048576] rfl (by (try simp only [List.map_toArray, List.map_cons, List.map_nil]); first | done | rfl | (simp only [List.length_drop, List.length_take]; rfl)) ?_; (with_reducible refine (laws_szRecS.calls _ _ l2 1048576 t1294 _ ?side1 ?side2 A4.out).mono ?_); (case side1 => repeat (first | exact HR2.out | (with_reducible refine Kd.C_alloc ?_ _) | (with_reducible refine Kd.C_drewN ?_ _) | (with_reducible refine Kd.C_drew ?_))); (case side2 => exact HC2.out); rintro e w' ⟨rfl, ⟨nd, rfl⟩⟩; refine ⟨_, rfl, ?_⟩) | ((with_reducible refine gate_callee (f := 58) rfl ?_); refine goesL_ (some 27) rfl rfl Try.func58 (by kernel_rfl) rfl #[.slice A2 l2.length c2] rfl (by (try simp only [List.map_toArray, List.map_cons, List.map_nil]); first | done | rfl | (simp only [List.length_drop, List.length_take]; rfl)) ?_; (with_reducible refine (laws_toRecS.calls k _ _ l2 t1295 _ ?side1 ?side2 A6.out).mono ?_); (case side1 => repeat (first | exact HR2.out | (with_reducible refine Kd.C_alloc ?_ _) | (with_reducible refine Kd.C_drewN ?_ _) | (with_reducible refine Kd.C_drew ?_))); (case side2 => exact HC2.out); rintro e w11 ⟨v1296, rfl, ho0, hb⟩; refine ⟨_, rfl, ?_⟩; have n0_ := Aside0.mk (Kd.R_lower ho0 (below_size (by repeat (first | (with_reducible first | exact HB.out | apply below_alloc | apply pw_below_drewN | apply below_drew1) | exact HB.out)))); have n1_ := Aside0.mk (below_step (by repeat (first | (with_reducible first | exact HB.out | apply below_alloc | apply pw_below_drewN | apply below_drew1) | exact HB.out)) hb); clear HB; have HO1297 := n0_; have HB := n1_; clear n0_ n1_; (try clear hb); (try clear hb2); (try clear hk); (try clear hi); (try clear ho0); obtain ⟨Ao12, co12, eo12⟩ := Kd.R_slice HO1297.out; subst eo12) | ((with_reducible refine gate_callee (f := 19) rfl ?_); refine goesL_ (some 28) rfl rfl Try.func19 (by kernel_rfl) rfl #[.int .i64 a0, .int .i64 a1, .slice Ao12 t1295.length co12] rfl (by (try simp only [List.map_toArray, List.map_cons, List.map_nil]); first | done | rfl | (simp only [List.length_drop, List.length_take]; rfl)) ?_; (with_reducible refine (spec_TxPages.calls k a0 a1 _ _ t1295 t1298 t1299 _ ?side1 ?side2 A7.out).mono ?_); (case side1 => repeat (first | exact (Kd.R_reads' HO1297.out).2.2 | (with_reducible refine Kd.C_alloc ?_ _) | (with_reducible refine Kd.C_drewN ?_ _) | (with_reducible refine Kd.C_drew ?_))); (case side2 => exact (Kd.R_reads' HO1297.out).2.1); rintro e w13 ⟨v1300, rfl, ho0, hb⟩; refine ⟨_, rfl, ?_⟩; have n0_ := Aside0.mk (Kd.R_below (by (with_reducible repeat (first | apply Kd.R_alloc | apply Kd.R_drewN | apply Kd.R_drew)); exact HO1297.out) hb); have n1_ := Aside0.mk (Kd.R_lower ho0 (below_size (by repeat (first | (with_reducible first | exact HB.out | apply below_alloc | apply pw_below_drewN | apply below_drew1) | exact HB.out)))); have n2_ := Aside0.mk (below_step (by repeat (first | (with_reducible first | exact HB.out | apply below_alloc | apply pw_below_drewN | apply below_drew1) | exact HB.out)) hb); clear HO1297; clear HB; have HO1297 := n0_; have HO1301 := n1_; have HB := n2_; clear n0_ n1_ n2_; (try clear hb); (try clear hb2); (try clear hk); (try clear hi); (try clear ho0)) | ((with_reducible refine gate_callee (f := 58) rfl ?_); refine goesL_ (some 32) rfl rfl Try.func58 (by kernel_rfl) rfl #[.slice A2 l2.length c2] rfl (by (try simp only [List.map_toArray, List.map_cons, List.map_nil]); first | done | rfl | (simp only [List.length_drop, List.length_take]; rfl)) ?_; (with_reducible refine (laws_toRecS.calls k _ _ l2 t1302 _ ?side1 ?side2 A8.out).mono ?_); (case side1 => repeat (first | exact (Kd.C_below HR2.out HB.out) | (with_reducible refine Kd.C_alloc ?_ _) | (with_reducible refine Kd.C_drewN ?_ _) | (with_reducible refine Kd.C_drew ?_))); (case side2 => exact HC2.out); rintro e w14 ⟨v1303, rfl, ho0, hb⟩; refine ⟨_, rfl, ?_⟩; have n0_ := Aside0.mk (Kd.R_elder' (by (with_reducible repeat (first | apply Kd.R_alloc | apply Kd.R_drewN | apply Kd.R_drew)); exact HO1297.out) (Kd.R_base ho0) hb); have n1_ := Aside0.mk (Kd.R_below (by (with_reducible repeat (first | apply Kd.R_alloc | apply Kd.R_drewN | apply Kd.R_drew)); exact HO1301.out) hb); have n2_ := Aside0.mk (Kd.R_lower (Kd.R_new' ho0 (Kd.R_lt (by (with_reducible repeat (first | apply Kd.R_alloc | apply Kd.R_drewN | apply Kd.R_drew)); exact HO1297.out))) (below_size (by repeat (first | (with_reducible first | exact HB.out | apply below_alloc | apply pw_below_drewN | apply below_drew1) | exact HB.out)))); have n3_ := Aside0.mk (below_step (by repeat (first | (with_reducible first | exact HB.out | apply below_alloc | apply pw_below_drewN | apply below_drew1) | exact HB.out)) hb); clear HO1297; clear HO1301; clear HB; have HO1297 := n0_; have HO1301 := n1_; have HO1304 := n2_; have HB := n3_; clear n0_ n1_ n2_ n3_; (try clear hb); (try clear hb2); (try clear hk); (try clear hi); (try clear ho0); obtain ⟨Ao15, co15, eo15⟩ := Kd.R_slice HO1304.out; subst eo15) | ((with_reducible refine gate_callee (f := 18) rfl ?_); refine goesL_ (some 37) rfl rfl Try.func18 (by kernel_rfl) rfl #[.int .i64 a0, .int .i64 a1, .slice Ao15 t1302.length co15] rfl (by (try simp only [List.map_toArray, List.map_cons, List.map_nil]); first | done | rfl | (simp only [List.length_drop, List.length_take]; rfl)) ?_; (with_reducible refine (impl_TxPages.calls k a0 a1 _ _ t1302 t1305 t1306 _ ?side1 ?side2 A9.out).mono ?_); (case side1 => repeat (first | exact (Kd.R_reads' HO1304.out).2.2 | (with_reducible refine Kd.C_alloc ?_ _) | (with_reducible refine Kd.C_drewN ?_ _) | (with_reducible refine Kd.C_drew ?_))); (case side2 => exact (Kd.R_reads' HO1304.out).2.1); rintro e w16 ⟨v1307, rfl, ho0, hb⟩; refine ⟨_, rfl, ?_⟩; have n0_ := Aside0.mk (Kd.R_below (by (with_reducible repeat (first | apply Kd.R_alloc | apply Kd.R_drewN | apply Kd.R_drew)); exact HO1297.out) hb); have n1_ := Aside0.mk (Kd.R_elder' (by (with_reducible repeat (first | apply Kd.R_alloc | apply Kd.R_drewN | apply Kd.R_drew)); exact HO1301.out) (Kd.R_base ho0) hb); have n2_ := Aside0.mk (Kd.R_below (by (with_reducible repeat (first | apply Kd.R_alloc | apply Kd.R_drewN | apply Kd.R_drew)); exact HO1304.out) hb); have n3_ := Aside0.mk (Kd.R_lower (Kd.R_new' ho0 (Kd.R_lt (by (with_reducible repeat (first | apply Kd.R_alloc | apply Kd.R_drewN | apply Kd.R_drew)); exact HO1301.out))) (below_size (by repeat (first | (with_reducible first | exact HB.out | apply below_alloc | apply pw_below_drewN | apply below_drew1) | exact HB.out)))); have n4_ := Aside0.mk (below_step (by repeat (first | (with_reducible first | exact HB.out | apply below_alloc | apply pw_below_drewN | apply below_drew1) | exact HB.out)) hb); clear HO1297; clear HO1301; clear HO1304; clear HB; have HO1297 := n0_; have HO1301 := n1_; have HO1304 := n2_; have HO1308 := n3_; have HB := n4_; clear n0_ n1_ n2_ n3_ n4_; (try clear hb); (try clear hb2); (try clear hk); (try clear hi); (try clear ho0)))
    (try simp only [Act.put, List.setIfInBounds_toArray, List.set_cons_zero, List.set_cons_succ])
    go_cut [48] (fun v48 wc => ∃ (kq : Nat) (x48_9 : Bool), v48 = .bool x48_9 ∧ Aside0 (laws_FnExactTxPages.j0 kq a0 a1 l2 t1298 t1299 t1302 t1305 t1306 x48_9 = some r) ∧ Aside0 (kq ≤ k) ∧ Aside0 (Kd.R k33 33 wc w.heap.size (fun k_ => some k_ ≠ (v1307 : Value).ownBlock) v1300 t1298) ∧ Aside0 (Kd.R k90 90 wc w.heap.size (fun _ => True) (.slice Ao15 t1302.length co15) t1302) ∧ Aside0 (Kd.R k33 33 wc w.heap.size (fun k_ => some k_ ≠ (v1300 : Value).ownBlock) v1307 t1305) ∧ Aside0 (Below w.heap.size w wc))
    case first =>
      have H := HC10.out
      clear HC10
      replace H := Option.bind_eq_some_iff.mp H
      obtain ⟨t1309, A170, H⟩ := H
      replace H : (if t1309 = true then (laws_FnExactTxPages.j0 k a0 a1 l2 t1298 t1299 t1302 t1305 t1306 (t1306 != t1299)) else (laws_FnExactTxPages.j0 k a0 a1 l2 t1298 t1299 t1302 t1305 t1306 true)) = some r := H
      have A17 := Aside0.mk A170
      clear A170
      by_cases c18 : t1309 = true
      · subst c18
        have H1 : (laws_FnExactTxPages.j0 k a0 a1 l2 t1298 t1299 t1302 t1305 t1306 (t1306 != t1299)) = some r := by rw [if_pos rfl] at H; exact H
        clear H
        have H := H1
        clear H1
        have H' := Aside0.mk H
        clear H
        obtain ⟨Ao19, co19, eo19⟩ := Kd.R_slice HO1308.out
        subst eo19
        obtain ⟨Ao20, co20, eo20⟩ := Kd.R_slice HO1301.out
        subst eo20
        go_wp2_with (first | ((with_reducible refine gate_callee (f := 59) rfl ?_); refine goesL_ (some 42) rfl rfl Try.func59 (by kernel_rfl) rfl #[.slice Ao19 t1305.length co19, .slice Ao20 t1298.length co20] rfl (by (try simp only [List.map_toArray, List.map_cons, List.map_nil]); first | done | rfl | (simp only [List.length_drop, List.length_take]; rfl)) ?_; (with_reducible refine (laws_eqPageS.calls k _ _ t1305 _ _ t1298 true _ ?side1 ?side2 ?side3 ?side4 A17.out).mono ?_); (case side1 => repeat (first | exact (Kd.R_reads' HO1308.out).2.2 | (with_reducible refine Kd.C_alloc ?_ _) | (with_reducible refine Kd.C_drewN ?_ _) | (with_reducible refine Kd.C_drew ?_))); (case side2 => exact (Kd.R_reads' HO1308.out).2.1); (case side3 => repeat (first | exact (Kd.R_reads' HO1301.out).2.2 | (with_reducible refine Kd.C_alloc ?_ _) | (with_reducible refine Kd.C_drewN ?_ _) | (with_reducible refine Kd.C_drew ?_))); (case side4 => exact (Kd.R_reads' HO1301.out).2.1); rintro e w21 ⟨rfl, hb⟩; refine ⟨_, rfl, ?_⟩; have n0_ := Aside0.mk (Kd.R_below (by (with_reducible repeat (first | apply Kd.R_alloc | apply Kd.R_drewN | apply Kd.R_drew)); exact HO1297.out) hb); have n1_ := Aside0.mk (Kd.R_below (by (with_reducible repeat (first | apply Kd.R_alloc | apply Kd.R_drewN | apply Kd.R_drew)); exact HO1301.out) hb); have n2_ := Aside0.mk (Kd.R_below (by (with_reducible repeat (first | apply Kd.R_alloc | apply Kd.R_drewN | apply Kd.R_drew)); exact HO1304.out) hb); have n3_ := Aside0.mk (Kd.R_below (by (with_reducible repeat (first | apply Kd.R_alloc | apply Kd.R_drewN | apply Kd.R_drew)); exact HO1308.out) hb); have n4_ := Aside0.mk (below_step (by repeat (first | (with_reducible first | exact HB.out | apply below_alloc | apply pw_below_drewN | apply below_drew1) | exact HB.out)) hb); clear HO1297; clear HO1301; clear HO1304; clear HO1308; clear HB; have HO1297 := n0_; have HO1301 := n1_; have HO1304 := n2_; have HO1308 := n3_; have HB := n4_; clear n0_ n1_ n2_ n3_ n4_; (try clear hb); (try clear hb2); (try clear hk); (try clear hi)))
        go_meet
        case rel => exact ⟨_, ((t1306 != t1299)), (by first | rfl | (simp; done) | (simp [*]; done)), H', ⟨by first | omega | exact Nat.le_refl _⟩, ⟨by (with_reducible repeat (first | apply Kd.R_alloc | apply Kd.R_drewN | apply Kd.R_drew)); exact Kd.R_mono HO1301.out (fun _ hk => hk.2)⟩, ⟨by (with_reducible repeat (first | apply Kd.R_alloc | apply Kd.R_drewN | apply Kd.R_drew)); exact Kd.R_mono HO1304.out (fun _ hk => trivial)⟩, ⟨by (with_reducible repeat (first | apply Kd.R_alloc | apply Kd.R_drewN | apply Kd.R_drew)); exact Kd.R_mono HO1308.out (fun _ hk => hk.2)⟩, ⟨by repeat (first | (with_reducible first | exact HB.out | apply below_alloc | apply pw_below_drewN | apply below_drew1) | exact HB.out)⟩⟩
      · replace c18 := Bool.eq_false_iff.mpr c18
        subst c18
        have H1 : (laws_FnExactTxPages.j0 k a0 a1 l2 t1298 t1299 t1302 t1305 t1306 true) = some r := by rw [if_neg (show ¬ (false = true) by decide)] at H; exact H
        clear H
        have H := H1
        clear H1
        have H' := Aside0.mk H
        clear H
        obtain ⟨Ao22, co22, eo22⟩ := Kd.R_slice HO1308.out
        subst eo22
        obtain ⟨Ao23, co23, eo23⟩ := Kd.R_slice HO1301.out
        subst eo23
        go_wp2_with (first | ((with_reducible refine gate_callee (f := 59) rfl ?_); refine goesL_ (some 42) rfl rfl Try.func59 (by kernel_rfl) rfl #[.slice Ao22 t1305.length co22, .slice Ao23 t1298.length co23] rfl (by (try simp only [List.map_toArray, List.map_cons, List.map_nil]); first | done | rfl | (simp only [List.length_drop, List.length_take]; rfl)) ?_; (with_reducible refine (laws_eqPageS.calls k _ _ t1305 _ _ t1298 false _ ?side1 ?side2 ?side3 ?side4 A17.out).mono ?_); (case side1 => repeat (first | exact (Kd.R_reads' HO1308.out).2.2 | (with_reducible refine Kd.C_alloc ?_ _) | (with_reducible refine Kd.C_drewN ?_ _) | (with_reducible refine Kd.C_drew ?_))); (case side2 => exact (Kd.R_reads' HO1308.out).2.1); (case side3 => repeat (first | exact (Kd.R_reads' HO1301.out).2.2 | (with_reducible refine Kd.C_alloc ?_ _) | (with_reducible refine Kd.C_drewN ?_ _) | (with_reducible refine Kd.C_drew ?_))); (case side4 => exact (Kd.R_reads' HO1301.out).2.1); rintro e w24 ⟨rfl, hb⟩; refine ⟨_, rfl, ?_⟩; have n0_ := Aside0.mk (Kd.R_below (by (with_reducible repeat (first | apply Kd.R_alloc | apply Kd.R_drewN | apply Kd.R_drew)); exact HO1297.out) hb); have n1_ := Aside0.mk (Kd.R_below (by (with_reducible repeat (first | apply Kd.R_alloc | apply Kd.R_drewN | apply Kd.R_drew)); exact HO1301.out) hb); have n2_ := Aside0.mk (Kd.R_below (by (with_reducible repeat (first | apply Kd.R_alloc | apply Kd.R_drewN | apply Kd.R_drew)); exact HO1304.out) hb); have n3_ := Aside0.mk (Kd.R_below (by (with_reducible repeat (first | apply Kd.R_alloc | apply Kd.R_drewN | apply Kd.R_drew)); exact HO1308.out) hb); have n4_ := Aside0.mk (below_step (by repeat (first | (with_reducible first | exact HB.out | apply below_alloc | apply pw_below_drewN | apply below_drew1) | exact HB.out)) hb); clear HO1297; clear HO1301; clear HO1304; clear HO1308; clear HB; have HO1297 := n0_; have HO1301 := n1_; have HO1304 := n2_; have HO1308 := n3_; have HB := n4_; clear n0_ n1_ n2_ n3_ n4_; (try clear hb); (try clear hb2); (try clear hk); (try clear hi)))
        go_meet
        case rel => exact ⟨_, (true), (by first | rfl | (simp; done) | (simp [*]; done)), H', ⟨by first | omega | exact Nat.le_refl _⟩, ⟨by (with_reducible repeat (first | apply Kd.R_alloc | apply Kd.R_drewN | apply Kd.R_drew)); exact Kd.R_mono HO1301.out (fun _ hk => hk.2)⟩, ⟨by (with_reducible repeat (first | apply Kd.R_alloc | apply Kd.R_drewN | apply Kd.R_drew)); exact Kd.R_mono HO1304.out (fun _ hk => trivial)⟩, ⟨by (with_reducible repeat (first | apply Kd.R_alloc | apply Kd.R_drewN | apply Kd.R_drew)); exact Kd.R_mono HO1308.out (fun _ hk => hk.2)⟩, ⟨by repeat (first | (with_reducible first | exact HB.out | apply below_alloc | apply pw_below_drewN | apply below_drew1) | exact HB.out)⟩⟩
    case rest =>
      clear HC10
      try clear c1
      try clear c2
      try clear p2
      try clear c5
      try clear c5b0
      try clear c9
      try clear c18
      try clear c19
      obtain ⟨kq, x48_9, rfl, HA, HJ9, HO_8, HO_10, HO_11, HB⟩ := hcut
      cases kq with
      | zero => exact absurd HA.out (by simp [laws_FnExactTxPages.j0])
      | succ kj9 =>
        have H := HA.out
        clear HA
        simp only [laws_FnExactTxPages.j0] at H
        by_cases c25 : x48_9 = true
        · subst c25
          have H1 : (some false) = some r := by rw [if_pos rfl] at H; exact H
          clear H
          have H := H1
          clear H1
          exact absurd ((Option.some.inj H).trans hT.out) (by decide)
        · replace c25 := Bool.eq_false_iff.mpr c25
          subst c25
          have H1 : ((laws_toRecS.f kj9 l2).bind fun t1310 => ((laws_eqRecS.f kj9 t1302 t1310).bind fun t1313 => (if t1313 = true then ((laws_markRecS.f kj9 t1302 1).bind fun bt1314 => (if bt1314.1 < 0 then (laws_FnExactTxPages.j1 kj9 a0 a1 l2 t1298 t1299 t1305 true) else ((laws_eqPageS.f kj9 t1305 t1298).bind fun t1316 => (if t1316 = true then (laws_FnExactTxPages.j1 kj9 a0 a1 l2 t1298 t1299 t1305 (t1306 != t1299)) else (laws_FnExactTxPages.j1 kj9 a0 a1 l2 t1298 t1299 t1305 true))))) else (some false)))) = some r := by rw [if_neg (show ¬ (false = true) by decide)] at H; exact H
          clear H
          have H := H1
          clear H1
          replace H := Option.bind_eq_some_iff.mp H
          obtain ⟨t1310, A260, H⟩ := H
          replace H : ((laws_eqRecS.f kj9 t1302 t1310).bind fun t1313 => (if t1313 = true then ((laws_markRecS.f kj9 t1302 1).bind fun bt1314 => (if bt1314.1 < 0 then (laws_FnExactTxPages.j1 kj9 a0 a1 l2 t1298 t1299 t1305 true) else ((laws_eqPageS.f kj9 t1305 t1298).bind fun t1316 => (if t1316 = true then (laws_FnExactTxPages.j1 kj9 a0 a1 l2 t1298 t1299 t1305 (t1306 != t1299)) else (laws_FnExactTxPages.j1 kj9 a0 a1 l2 t1298 t1299 t1305 true))))) else (some false))) = some r := H
          have A26 := Aside0.mk A260
          clear A260
          replace H := Option.bind_eq_some_iff.mp H
          obtain ⟨t1313, A270, H⟩ := H
          replace H : (if t1313 = true then ((laws_markRecS.f kj9 t1302 1).bind fun bt1314 => (if bt1314.1 < 0 then (laws_FnExactTxPages.j1 kj9 a0 a1 l2 t1298 t1299 t1305 true) else ((laws_eqPageS.f kj9 t1305 t1298).bind fun t1316 => (if t1316 = true then (laws_FnExactTxPages.j1 kj9 a0 a1 l2 t1298 t1299 t1305 (t1306 != t1299)) else (laws_FnExactTxPages.j1 kj9 a0 a1 l2 t1298 t1299 t1305 true))))) else (some false)) = some r := H
          have A27 := Aside0.mk A270
          clear A270
          by_cases c28 : t1313 = true
          · subst c28
            have H1 : ((laws_markRecS.f kj9 t1302 1).bind fun bt1314 => (if bt1314.1 < 0 then (laws_FnExactTxPages.j1 kj9 a0 a1 l2 t1298 t1299 t1305 true) else ((laws_eqPageS.f kj9 t1305 t1298).bind fun t1316 => (if t1316 = true then (laws_FnExactTxPages.j1 kj9 a0 a1 l2 t1298 t1299 t1305 (t1306 != t1299)) else (laws_FnExactTxPages.j1 kj9 a0 a1 l2 t1298 t1299 t1305 true))))) = some r := by rw [if_pos rfl] at H; exact H
            clear H
            have H := H1
            clear H1
            replace H := Option.bind_eq_some_iff.mp H
            obtain ⟨⟨t1314, t1315⟩, A290, H⟩ := H
            replace H : (if t1314 < 0 then (laws_FnExactTxPages.j1 kj9 a0 a1 l2 t1298 t1299 t1305 true) else ((laws_eqPageS.f kj9 t1305 t1298).bind fun t1316 => (if t1316 = true then (laws_FnExactTxPages.j1 kj9 a0 a1 l2 t1298 t1299 t1305 (t1306 != t1299)) else (laws_FnExactTxPages.j1 kj9 a0 a1 l2 t1298 t1299 t1305 true)))) = some r := H
            have A29 := Aside0.mk A290
            clear A290
            have HC30 := Aside0.mk H
            clear H
            go_upto_region 14 with (first | ((with_reducible refine gate_callee (f := 58) rfl ?_); refine goesL_ (some 51) rfl rfl Try.func58 (by kernel_rfl) rfl #[.slice A2 l2.length c2] rfl (by (try simp only [List.map_toArray, List.map_cons, List.map_nil]); first | done | rfl | (simp only [List.length_drop, List.length_take]; rfl)) ?_; (with_reducible refine (laws_toRecS.calls kj9 _ _ l2 t1310 _ ?side1 ?side2 A26.out).mono ?_); (case side1 => repeat (first | exact (Kd.C_below HR2.out HB.out) | (with_reducible refine Kd.C_alloc ?_ _) | (with_reducible refine Kd.C_drewN ?_ _) | (with_reducible refine Kd.C_drew ?_))); (case side2 => exact HC2.out); rintro e w31 ⟨v1311, rfl, ho0, hb⟩; refine ⟨_, rfl, ?_⟩; have n0_ := Aside0.mk (Kd.R_below (by (with_reducible repeat (first | apply Kd.R_alloc | apply Kd.R_drewN | apply Kd.R_drew)); exact HO_8.out) hb); have n1_ := Aside0.mk (Kd.R_elder' (by (with_reducible repeat (first | apply Kd.R_alloc | apply Kd.R_drewN | apply Kd.R_drew)); exact HO_10.out) (Kd.R_base ho0) hb); have n2_ := Aside0.mk (Kd.R_below (by (with_reducible repeat (first | apply Kd.R_alloc | apply Kd.R_drewN | apply Kd.R_drew)); exact HO_11.out) hb); have n3_ := Aside0.mk (Kd.R_lower (Kd.R_new' ho0 (Kd.R_lt (by (with_reducible repeat (first | apply Kd.R_alloc | apply Kd.R_drewN | apply Kd.R_drew)); exact HO_10.out))) (below_size (by repeat (first | (with_reducible first | exact HB.out | apply below_alloc | apply pw_below_drewN | apply below_drew1) | exact HB.out)))); have n4_ := Aside0.mk (below_step (by repeat (first | (with_reducible first | exact HB.out | apply below_alloc | apply pw_below_drewN | apply below_drew1) | exact HB.out)) hb); clear HO_8; clear HO_10; clear HO_11; clear HB; have HO_8 := n0_; have HO_10 := n1_; have HO_11 := n2_; have HO1312 := n3_; have HB := n4_; clear n0_ n1_ n2_ n3_ n4_; (try clear hb); (try clear hb2); (try clear hk); (try clear hi); (try clear ho0); obtain ⟨Ao32, co32, eo32⟩ := Kd.R_slice HO1312.out; subst eo32) | ((with_reducible refine gate_callee (f := 60) rfl ?_); refine goesL_ (some 52) rfl rfl Try.func60 (by kernel_rfl) rfl #[.slice Ao15 t1302.length co15, .slice Ao32 t1310.length co32] rfl (by (try simp only [List.map_toArray, List.map_cons, List.map_nil]); first | done | rfl | (simp only [List.length_drop, List.length_take]; rfl)) ?_; (with_reducible refine (laws_eqRecS.calls kj9 _ _ t1302 _ _ t1310 true _ ?side1 ?side2 ?side3 ?side4 A27.out).mono ?_); (case side1 => repeat (first | exact (Kd.R_reads' HO_10.out).2.2 | (with_reducible refine Kd.C_alloc ?_ _) | (with_reducible refine Kd.C_drewN ?_ _) | (with_reducible refine Kd.C_drew ?_))); (case side2 => exact (Kd.R_reads' HO_10.out).2.1); (case side3 => repeat (first | exact (Kd.R_reads' HO1312.out).2.2 | (with_reducible refine Kd.C_alloc ?_ _) | (with_reducible refine Kd.C_drewN ?_ _) | (with_reducible refine Kd.C_drew ?_))); (case side4 => exact (Kd.R_reads' HO1312.out).2.1); rintro e w33 ⟨rfl, hb⟩; refine ⟨_, rfl, ?_⟩; have n0_ := Aside0.mk (Kd.R_below (by (with_reducible repeat (first | apply Kd.R_alloc | apply Kd.R_drewN | apply Kd.R_drew)); exact HO_8.out) hb); have n1_ := Aside0.mk (Kd.R_below (by (with_reducible repeat (first | apply Kd.R_alloc | apply Kd.R_drewN | apply Kd.R_drew)); exact HO_10.out) hb); have n2_ := Aside0.mk (Kd.R_below (by (with_reducible repeat (first | apply Kd.R_alloc | apply Kd.R_drewN | apply Kd.R_drew)); exact HO_11.out) hb); have n3_ := Aside0.mk (Kd.R_below (by (with_reducible repeat (first | apply Kd.R_alloc | apply Kd.R_drewN | apply Kd.R_drew)); exact HO1312.out) hb); have n4_ := Aside0.mk (below_step (by repeat (first | (with_reducible first | exact HB.out | apply below_alloc | apply pw_below_drewN | apply below_drew1) | exact HB.out)) hb); clear HO_8; clear HO_10; clear HO_11; clear HO1312; clear HB; have HO_8 := n0_; have HO_10 := n1_; have HO_11 := n2_; have HO1312 := n3_; have HB := n4_; clear n0_ n1_ n2_ n3_ n4_; (try clear hb); (try clear hb2); (try clear hk); (try clear hi)) | ((with_reducible refine gate_callee (f := 61) rfl ?_); refine goesL_ (some 56) rfl rfl Try.func61 (by kernel_rfl) rfl #[.slice Ao15 t1302.length co15, .int .i64 1] rfl (by (try simp only [List.map_toArray, List.map_cons, List.map_nil]); first | done | rfl | (simp only [List.length_drop, List.length_take]; rfl)) ?_; (with_reducible refine (laws_markRecS.calls kj9 (fun k_ => some k_ = (.slice Ao15 t1302.length co15 : Value).ownBlock) (.slice Ao15 t1302.length co15) t1302 1 t1314 t1315 w _ ?side1 ?side2 A29.out).mono ?_); (case side1 => repeat (first | (with_reducible first | exact HB.out | apply below_alloc | apply pw_below_drewN | apply below_drew1) | exact HB.out)); (case side2 => exact Kd.R_tight rfl HO_10.out); rintro e w34 ⟨rfl, hy0, hb, hkp⟩; refine ⟨_, rfl, ?_⟩; have n0_ := Aside0.mk (Kd.R_mono (ok' := fun k_ => some k_ ≠ (v1307 : Value).ownBlock) (Kd.R_keptB ((Kd.R_apart' HO_8.out (Kd.R_typed HO_10.out) (by decide))) hkp (fun k_ hk_ hs_ => (hk_.2) hs_)) (fun k_ hk_ => hk_.1.1)); have n1_ := Aside0.mk (Kd.R_reok rfl hy0 (fun k_ e_ => HO_10.out.1 k_ e_)); have n2_ := Aside0.mk (Kd.R_mono (ok' := fun k_ => some k_ ≠ (v1300 : Value).ownBlock) (Kd.R_keptB ((Kd.R_apart' HO_11.out (Kd.R_typed HO_10.out) (by decide))) hkp (fun k_ hk_ hs_ => (hk_.2) hs_)) (fun k_ hk_ => hk_.1.1)); have n3_ := Aside0.mk (Kd.R_mono (ok' := fun k_ => some k_ ≠ (.slice Ao15 t1302.length co15 : Value).ownBlock) (Kd.R_keptB (HO1312.out) hkp (fun k_ hk_ hs_ => (hk_.2) hs_)) (fun k_ hk_ => hk_.1.2)); have n4_ := Aside0.mk (hb); clear HO_8; clear HO_10; clear HO_11; clear HO1312; clear HB; have HO_8 := n0_; have HO_10 := n1_; have HO_11 := n2_; have HO1312 := n3_; have HB := n4_; clear n0_ n1_ n2_ n3_ n4_; (try clear hb); (try clear hkp); (try clear hy0)))
            (try simp only [Act.put, List.setIfInBounds_toArray, List.set_cons_zero, List.set_cons_succ])
            go_cut [69] (fun v69 wc => ∃ (kq : Nat) (x69_29 : Bool), v69 = .bool x69_29 ∧ Aside0 (laws_FnExactTxPages.j1 kq a0 a1 l2 t1298 t1299 t1305 x69_29 = some r) ∧ Aside0 (kq ≤ kj9) ∧ Aside0 (Kd.R k33 33 wc w.heap.size (fun k_ => some k_ ≠ (v1307 : Value).ownBlock) v1300 t1298) ∧ Aside0 (Kd.R k33 33 wc w.heap.size (fun k_ => some k_ ≠ (v1300 : Value).ownBlock) v1307 t1305) ∧ Aside0 (Below w.heap.size w wc))
            case first =>
              have H := HC30.out
              clear HC30
              by_cases c35 : t1314 < 0
              · rw [if_pos c35] at H
                have c35b0 : decide (t1314 < 0) = true := decide_eq_true c35
                clear c35
                (first | rw [c35b0] | (simp only [i64_w, i32_w]; rw [c35b0]) | skip)
                have H' := Aside0.mk H
                clear H
                go_wp2
                go_meet
                case rel => exact ⟨_, (true), (by first | rfl | (simp; done) | (simp [*]; done)), H', ⟨by have := HJ9.out; first | omega | exact Nat.le_refl _⟩, ⟨by (with_reducible repeat (first | apply Kd.R_alloc | apply Kd.R_drewN | apply Kd.R_drew)); exact HO_8.out⟩, ⟨by (with_reducible repeat (first | apply Kd.R_alloc | apply Kd.R_drewN | apply Kd.R_drew)); exact HO_11.out⟩, ⟨by repeat (first | (with_reducible first | exact HB.out | apply below_alloc | apply pw_below_drewN | apply below_drew1) | exact HB.out)⟩⟩
              · rw [if_neg c35] at H
                have c35b0 : decide (t1314 < 0) = false := decide_eq_false c35
                clear c35
                (first | rw [c35b0] | (simp only [i64_w, i32_w]; rw [c35b0]) | skip)
                replace H := Option.bind_eq_some_iff.mp H
                obtain ⟨t1316, A360, H⟩ := H
                replace H : (if t1316 = true then (laws_FnExactTxPages.j1 kj9 a0 a1 l2 t1298 t1299 t1305 (t1306 != t1299)) else (laws_FnExactTxPages.j1 kj9 a0 a1 l2 t1298 t1299 t1305 true)) = some r := H
                have A36 := Aside0.mk A360
                clear A360
                by_cases c37 : t1316 = true
                · subst c37
                  have H1 : (laws_FnExactTxPages.j1 kj9 a0 a1 l2 t1298 t1299 t1305 (t1306 != t1299)) = some r := by rw [if_pos rfl] at H; exact H
                  clear H
                  have H := H1
                  clear H1
                  have H' := Aside0.mk H
                  clear H
                  obtain ⟨Ao38, co38, eo38⟩ := Kd.R_slice HO_11.out
                  subst eo38
                  obtain ⟨Ao39, co39, eo39⟩ := Kd.R_slice HO_8.out
                  subst eo39
                  go_wp2_with (first | (go_at_call 59; (with_reducible refine (laws_eqPageS.calls kj9 _ _ t1305 _ _ t1298 true _ ?side1 ?side2 ?side3 ?side4 A36.out).mono ?_); (case side1 => repeat (first | exact (Kd.R_reads' HO_11.out).2.2 | (with_reducible refine Kd.C_alloc ?_ _) | (with_reducible refine Kd.C_drewN ?_ _) | (with_reducible refine Kd.C_drew ?_))); (case side2 => exact (Kd.R_reads' HO_11.out).2.1); (case side3 => repeat (first | exact (Kd.R_reads' HO_8.out).2.2 | (with_reducible refine Kd.C_alloc ?_ _) | (with_reducible refine Kd.C_drewN ?_ _) | (with_reducible refine Kd.C_drew ?_))); (case side4 => exact (Kd.R_reads' HO_8.out).2.1); rintro e w40 ⟨rfl, hb⟩; have n0_ := Aside0.mk (Kd.R_below (by (with_reducible repeat (first | apply Kd.R_alloc | apply Kd.R_drewN | apply Kd.R_drew)); exact HO_8.out) hb); have n1_ := Aside0.mk (Kd.R_below (by (with_reducible repeat (first | apply Kd.R_alloc | apply Kd.R_drewN | apply Kd.R_drew)); exact HO_10.out) hb); have n2_ := Aside0.mk (Kd.R_below (by (with_reducible repeat (first | apply Kd.R_alloc | apply Kd.R_drewN | apply Kd.R_drew)); exact HO_11.out) hb); have n3_ := Aside0.mk (Kd.R_below (by (with_reducible repeat (first | apply Kd.R_alloc | apply Kd.R_drewN | apply Kd.R_drew)); exact HO1312.out) hb); have n4_ := Aside0.mk (below_step (by repeat (first | (with_reducible first | exact HB.out | apply below_alloc | apply pw_below_drewN | apply below_drew1) | exact HB.out)) hb); clear HO_8; clear HO_10; clear HO_11; clear HO1312; clear HB; have HO_8 := n0_; have HO_10 := n1_; have HO_11 := n2_; have HO1312 := n3_; have HB := n4_; clear n0_ n1_ n2_ n3_ n4_; (try clear hb); (try clear hb2); (try clear hk); (try clear hi)))
                  go_meet
                  case rel => exact ⟨_, ((t1306 != t1299)), (by first | rfl | (simp; done) | (simp [*]; done)), H', ⟨by have := HJ9.out; first | omega | exact Nat.le_refl _⟩, ⟨by (with_reducible repeat (first | apply Kd.R_alloc | apply Kd.R_drewN | apply Kd.R_drew)); exact HO_8.out⟩, ⟨by (with_reducible repeat (first | apply Kd.R_alloc | apply Kd.R_drewN | apply Kd.R_drew)); exact HO_11.out⟩, ⟨by repeat (first | (with_reducible first | exact HB.out | apply below_alloc | apply pw_below_drewN | apply below_drew1) | exact HB.out)⟩⟩
                · replace c37 := Bool.eq_false_iff.mpr c37
                  subst c37
                  have H1 : (laws_FnExactTxPages.j1 kj9 a0 a1 l2 t1298 t1299 t1305 true) = some r := by rw [if_neg (show ¬ (false = true) by decide)] at H; exact H
                  clear H
                  have H := H1
                  clear H1
                  have H' := Aside0.mk H
                  clear H
                  obtain ⟨Ao41, co41, eo41⟩ := Kd.R_slice HO_11.out
                  subst eo41
                  obtain ⟨Ao42, co42, eo42⟩ := Kd.R_slice HO_8.out
                  subst eo42
                  go_wp2_with (first | (go_at_call 59; (with_reducible refine (laws_eqPageS.calls kj9 _ _ t1305 _ _ t1298 false _ ?side1 ?side2 ?side3 ?side4 A36.out).mono ?_); (case side1 => repeat (first | exact (Kd.R_reads' HO_11.out).2.2 | (with_reducible refine Kd.C_alloc ?_ _) | (with_reducible refine Kd.C_drewN ?_ _) | (with_reducible refine Kd.C_drew ?_))); (case side2 => exact (Kd.R_reads' HO_11.out).2.1); (case side3 => repeat (first | exact (Kd.R_reads' HO_8.out).2.2 | (with_reducible refine Kd.C_alloc ?_ _) | (with_reducible refine Kd.C_drewN ?_ _) | (with_reducible refine Kd.C_drew ?_))); (case side4 => exact (Kd.R_reads' HO_8.out).2.1); rintro e w43 ⟨rfl, hb⟩; have n0_ := Aside0.mk (Kd.R_below (by (with_reducible repeat (first | apply Kd.R_alloc | apply Kd.R_drewN | apply Kd.R_drew)); exact HO_8.out) hb); have n1_ := Aside0.mk (Kd.R_below (by (with_reducible repeat (first | apply Kd.R_alloc | apply Kd.R_drewN | apply Kd.R_drew)); exact HO_10.out) hb); have n2_ := Aside0.mk (Kd.R_below (by (with_reducible repeat (first | apply Kd.R_alloc | apply Kd.R_drewN | apply Kd.R_drew)); exact HO_11.out) hb); have n3_ := Aside0.mk (Kd.R_below (by (with_reducible repeat (first | apply Kd.R_alloc | apply Kd.R_drewN | apply Kd.R_drew)); exact HO1312.out) hb); have n4_ := Aside0.mk (below_step (by repeat (first | (with_reducible first | exact HB.out | apply below_alloc | apply pw_below_drewN | apply below_drew1) | exact HB.out)) hb); clear HO_8; clear HO_10; clear HO_11; clear HO1312; clear HB; have HO_8 := n0_; have HO_10 := n1_; have HO_11 := n2_; have HO1312 := n3_; have HB := n4_; clear n0_ n1_ n2_ n3_ n4_; (try clear hb); (try clear hb2); (try clear hk); (try clear hi)))
                  go_meet
                  case rel => exact ⟨_, (true), (by first | rfl | (simp; done) | (simp [*]; done)), H', ⟨by have := HJ9.out; first | omega | exact Nat.le_refl _⟩, ⟨by (with_reducible repeat (first | apply Kd.R_alloc | apply Kd.R_drewN | apply Kd.R_drew)); exact HO_8.out⟩, ⟨by (with_reducible repeat (first | apply Kd.R_alloc | apply Kd.R_drewN | apply Kd.R_drew)); exact HO_11.out⟩, ⟨by repeat (first | (with_reducible first | exact HB.out | apply below_alloc | apply pw_below_drewN | apply below_drew1) | exact HB.out)⟩⟩
            case rest =>
              clear HC30
              try clear c1
              try clear c2
              try clear p2
              try clear c3
              try clear c5
              try clear c5b0
              try clear c6
              try clear c9
              try clear c18
              try clear c19
              try clear c25
              try clear c28
              try clear c35
              try clear c35b0
              try clear c37
              try clear p2
              obtain ⟨kq, x69_29, rfl, HA, HJ29, HO_8, HO_11, HB⟩ := hcut
              cases kq with
              | zero => exact absurd HA.out (by simp [laws_FnExactTxPages.j1])
              | succ kj29 =>
                have H := HA.out
                clear HA
                simp only [laws_FnExactTxPages.j1] at H
                by_cases c44 : x69_29 = true
                · subst c44
                  have H1 : (some false) = some r := by rw [if_pos rfl] at H; exact H
                  clear H
                  have H := H1
                  clear H1
                  exact absurd ((Option.some.inj H).trans hT.out) (by decide)
                · replace c44 := Bool.eq_false_iff.mpr c44
                  subst c44
                  have H1 : ((laws_markPageS.f kj29 t1305 1).bind fun bt1317 => ((laws_heldPageS.f kj29 bt1317.2 1).bind fun t1319 => (if t1319 < 0 then (some false) else (if t1319 = bt1317.1 then ((laws_toRecS.f kj29 l2).bind fun t1320 => ((impl_TxPages.f kj29 a0 a1 t1320).bind fun bt1323 => ((laws_eqPageS.f kj29 bt1323.1 t1298).bind fun t1327 => (if t1327 = true then (laws_FnExactTxPages.j2 kj29 bt1317.2 bt1317.1 (bt1323.2 != t1299)) else (laws_FnExactTxPages.j2 kj29 bt1317.2 bt1317.1 true))))) else (some false))))) = some r := by rw [if_neg (show ¬ (false = true) by decide)] at H; exact H
                  clear H
                  have H := H1
                  clear H1
                  replace H := Option.bind_eq_some_iff.mp H
                  obtain ⟨⟨t1317, t1318⟩, A450, H⟩ := H
                  replace H : ((laws_heldPageS.f kj29 t1318 1).bind fun t1319 => (if t1319 < 0 then (some false) else (if t1319 = t1317 then ((laws_toRecS.f kj29 l2).bind fun t1320 => ((impl_TxPages.f kj29 a0 a1 t1320).bind fun bt1323 => ((laws_eqPageS.f kj29 bt1323.1 t1298).bind fun t1327 => (if t1327 = true then (laws_FnExactTxPages.j2 kj29 t1318 t1317 (bt1323.2 != t1299)) else (laws_FnExactTxPages.j2 kj29 t1318 t1317 true))))) else (some false)))) = some r := H
                  have A45 := Aside0.mk A450
                  clear A450
                  replace H := Option.bind_eq_some_iff.mp H
                  obtain ⟨t1319, A460, H⟩ := H
                  replace H : (if t1319 < 0 then (some false) else (if t1319 = t1317 then ((laws_toRecS.f kj29 l2).bind fun t1320 => ((impl_TxPages.f kj29 a0 a1 t1320).bind fun bt1323 => ((laws_eqPageS.f kj29 bt1323.1 t1298).bind fun t1327 => (if t1327 = true then (laws_FnExactTxPages.j2 kj29 t1318 t1317 (bt1323.2 != t1299)) else (laws_FnExactTxPages.j2 kj29 t1318 t1317 true))))) else (some false))) = some r := H
                  have A46 := Aside0.mk A460
                  clear A460
                  by_cases c47 : t1319 < 0
                  · rw [if_pos c47] at H
                    have c47b0 : decide (t1319 < 0) = true := decide_eq_true c47
                    clear c47
                    exact absurd ((Option.some.inj H).trans hT.out) (by decide)
                  · rw [if_neg c47] at H
                    have c47b0 : decide (t1319 < 0) = false := decide_eq_false c47
                    clear c47
                    by_cases c48 : t1319 = t1317
                    · rw [if_pos c48] at H
                      have c48b0 : (t1319 == t1317) = true := beq_iff_eq.mpr c48
                      have c48b1 : (t1319 != t1317) = false := bne_eq_false_iff_eq.mpr c48
                      clear c48
                      replace H := Option.bind_eq_some_iff.mp H
                      obtain ⟨t1320, A490, H⟩ := H
                      replace H : ((impl_TxPages.f kj29 a0 a1 t1320).bind fun bt1323 => ((laws_eqPageS.f kj29 bt1323.1 t1298).bind fun t1327 => (if t1327 = true then (laws_FnExactTxPages.j2 kj29 t1318 t1317 (bt1323.2 != t1299)) else (laws_FnExactTxPages.j2 kj29 t1318 t1317 true)))) = some r := H
                      have A49 := Aside0.mk A490
                      clear A490
                      replace H := Option.bind_eq_some_iff.mp H
                      obtain ⟨⟨t1323, t1324⟩, A500, H⟩ := H
                      replace H : ((laws_eqPageS.f kj29 t1323 t1298).bind fun t1327 => (if t1327 = true then (laws_FnExactTxPages.j2 kj29 t1318 t1317 (t1324 != t1299)) else (laws_FnExactTxPages.j2 kj29 t1318 t1317 true))) = some r := H
                      have A50 := Aside0.mk A500
                      clear A500
                      have HC51 := Aside0.mk H
                      clear H
                      obtain ⟨Ao52, co52, eo52⟩ := Kd.R_slice HO_11.out
                      subst eo52
                      go_upto_region 25 with (first | ((with_reducible refine gate_callee (f := 62) rfl ?_); refine goesL_ (some 72) rfl rfl Try.func62 (by kernel_rfl) rfl #[.slice Ao52 t1305.length co52, .int .i64 1] rfl (by (try simp only [List.map_toArray, List.map_cons, List.map_nil]); first | done | rfl | (simp only [List.length_drop, List.length_take]; rfl)) ?_; (with_reducible refine (laws_markPageS.calls kj29 (fun k_ => some k_ = (.slice Ao52 t1305.length co52 : Value).ownBlock) (.slice Ao52 t1305.length co52) t1305 1 t1317 t1318 w _ ?side1 ?side2 A45.out).mono ?_); (case side1 => repeat (first | (with_reducible first | exact HB.out | apply below_alloc | apply pw_below_drewN | apply below_drew1) | exact HB.out)); (case side2 => exact Kd.R_tight rfl HO_11.out); rintro e w53 ⟨rfl, hy0, hb, hkp⟩; refine ⟨_, rfl, ?_⟩; have n0_ := Aside0.mk (Kd.R_mono (ok' := fun k_ => some k_ ≠ (.slice Ao52 t1305.length co52 : Value).ownBlock) (Kd.R_keptB (HO_8.out) hkp (fun k_ hk_ hs_ => (hk_) hs_)) (fun k_ hk_ => hk_.1)); have n1_ := Aside0.mk (Kd.R_reok rfl hy0 (fun k_ e_ => HO_11.out.1 k_ e_)); have n2_ := Aside0.mk (hb); clear HO_8; clear HO_11; clear HB; have HO_8 := n0_; have HO_11 := n1_; have HB := n2_; clear n0_ n1_ n2_; (try clear hb); (try clear hkp); (try clear hy0)) | ((with_reducible refine gate_callee (f := 63) rfl ?_); refine goesL_ (some 75) rfl rfl Try.func63 (by kernel_rfl) rfl #[.slice Ao52 t1318.length co52, .int .i64 1] rfl (by (try simp only [List.map_toArray, List.map_cons, List.map_nil]); first | done | (rw [show t1318.length = t1305.length from (Kd.R_reads' HO_11.out).1.symm] <;> rfl) | rfl | (simp only [List.length_drop, List.length_take]; rfl)) ?_; (with_reducible refine (laws_heldPageS.calls kj29 _ _ t1318 1 t1319 _ ?side1 ?side2 A46.out).mono ?_); (case side1 => repeat (first | exact (Kd.R_reads' HO_11.out).2.2 | (with_reducible refine Kd.C_alloc ?_ _) | (with_reducible refine Kd.C_drewN ?_ _) | (with_reducible refine Kd.C_drew ?_))); (case side2 => rw [show t1318.length = t1305.length from (Kd.R_reads' HO_11.out).1.symm]; exact (Kd.R_reads' HO_11.out).2.1); rintro e w54 ⟨rfl, hb⟩; refine ⟨_, rfl, ?_⟩; have n0_ := Aside0.mk (Kd.R_below (by (with_reducible repeat (first | apply Kd.R_alloc | apply Kd.R_drewN | apply Kd.R_drew)); exact HO_8.out) hb); have n1_ := Aside0.mk (Kd.R_below (by (with_reducible repeat (first | apply Kd.R_alloc | apply Kd.R_drewN | apply Kd.R_drew)); exact HO_11.out) hb); have n2_ := Aside0.mk (below_step (by repeat (first | (with_reducible first | exact HB.out | apply below_alloc | apply pw_below_drewN | apply below_drew1) | exact HB.out)) hb); clear HO_8; clear HO_11; clear HB; have HO_8 := n0_; have HO_11 := n1_; have HB := n2_; clear n0_ n1_ n2_; (try clear hb); (try clear hb2); (try clear hk); (try clear hi)) | ((with_reducible refine gate_callee (f := 58) rfl ?_); refine goesL_ (some 85) rfl rfl Try.func58 (by kernel_rfl) rfl #[.slice A2 l2.length c2] rfl (by (try simp only [List.map_toArray, List.map_cons, List.map_nil]); first | done | rfl | (simp only [List.length_drop, List.length_take]; rfl)) ?_; (with_reducible refine (laws_toRecS.calls kj29 _ _ l2 t1320 _ ?side1 ?side2 A49.out).mono ?_); (case side1 => repeat (first | exact (Kd.C_below HR2.out HB.out) | (with_reducible refine Kd.C_alloc ?_ _) | (with_reducible refine Kd.C_drewN ?_ _) | (with_reducible refine Kd.C_drew ?_))); (case side2 => exact HC2.out); rintro e w55 ⟨v1321, rfl, ho0, hb⟩; refine ⟨_, rfl, ?_⟩; have n0_ := Aside0.mk (Kd.R_below (by (with_reducible repeat (first | apply Kd.R_alloc | apply Kd.R_drewN | apply Kd.R_drew)); exact HO_8.out) hb); have n1_ := Aside0.mk (Kd.R_below (by (with_reducible repeat (first | apply Kd.R_alloc | apply Kd.R_drewN | apply Kd.R_drew)); exact HO_11.out) hb); have n2_ := Aside0.mk (Kd.R_lower ho0 (below_size (by repeat (first | (with_reducible first | exact HB.out | apply below_alloc | apply pw_below_drewN | apply below_drew1) | exact HB.out)))); have n3_ := Aside0.mk (below_step (by repeat (first | (with_reducible first | exact HB.out | apply below_alloc | apply pw_below_drewN | apply below_drew1) | exact HB.out)) hb); clear HO_8; clear HO_11; clear HB; have HO_8 := n0_; have HO_11 := n1_; have HO1322 := n2_; have HB := n3_; clear n0_ n1_ n2_ n3_; (try clear hb); (try clear hb2); (try clear hk); (try clear hi); (try clear ho0); obtain ⟨Ao56, co56, eo56⟩ := Kd.R_slice HO1322.out; subst eo56) | ((with_reducible refine gate_callee (f := 18) rfl ?_); refine goesL_ (some 86) rfl rfl Try.func18 (by kernel_rfl) rfl #[.int .i64 a0, .int .i64 a1, .slice Ao56 t1320.length co56] rfl (by (try simp only [List.map_toArray, List.map_cons, List.map_nil]); first | done | rfl | (simp only [List.length_drop, List.length_take]; rfl)) ?_; (with_reducible refine (impl_TxPages.calls kj29 a0 a1 _ _ t1320 t1323 t1324 _ ?side1 ?side2 A50.out).mono ?_); (case side1 => repeat (first | exact (Kd.R_reads' HO1322.out).2.2 | (with_reducible refine Kd.C_alloc ?_ _) | (with_reducible refine Kd.C_drewN ?_ _) | (with_reducible refine Kd.C_drew ?_))); (case side2 => exact (Kd.R_reads' HO1322.out).2.1); rintro e w57 ⟨v1325, rfl, ho0, hb⟩; refine ⟨_, rfl, ?_⟩; have n0_ := Aside0.mk (Kd.R_elder' (by (with_reducible repeat (first | apply Kd.R_alloc | apply Kd.R_drewN | apply Kd.R_drew)); exact HO_8.out) (Kd.R_base ho0) hb); have n1_ := Aside0.mk (Kd.R_elder' (by (with_reducible repeat (first | apply Kd.R_alloc | apply Kd.R_drewN | apply Kd.R_drew)); exact HO_11.out) (Kd.R_base ho0) hb); have n2_ := Aside0.mk (Kd.R_below (by (with_reducible repeat (first | apply Kd.R_alloc | apply Kd.R_drewN | apply Kd.R_drew)); exact HO1322.out) hb); have n3_ := Aside0.mk (Kd.R_lower (Kd.R_new' (Kd.R_new' ho0 (Kd.R_lt (by (with_reducible repeat (first | apply Kd.R_alloc | apply Kd.R_drewN | apply Kd.R_drew)); exact HO_8.out))) (Kd.R_lt (by (with_reducible repeat (first | apply Kd.R_alloc | apply Kd.R_drewN | apply Kd.R_drew)); exact HO_11.out))) (below_size (by repeat (first | (with_reducible first | exact HB.out | apply below_alloc | apply pw_below_drewN | apply below_drew1) | exact HB.out)))); have n4_ := Aside0.mk (below_step (by repeat (first | (with_reducible first | exact HB.out | apply below_alloc | apply pw_below_drewN | apply below_drew1) | exact HB.out)) hb); clear HO_8; clear HO_11; clear HO1322; clear HB; have HO_8 := n0_; have HO_11 := n1_; have HO1322 := n2_; have HO1326 := n3_; have HB := n4_; clear n0_ n1_ n2_ n3_ n4_; (try clear hb); (try clear hb2); (try clear hk); (try clear hi); (try clear ho0)))
                      (try simp only [Act.put, List.setIfInBounds_toArray, List.set_cons_zero, List.set_cons_succ])
                      go_cut [97] (fun v97 wc => ∃ (kq : Nat) (x97_50 : Bool), v97 = .bool x97_50 ∧ Aside0 (laws_FnExactTxPages.j2 kq t1318 t1317 x97_50 = some r) ∧ Aside0 (kq ≤ kj29) ∧ Aside0 (Kd.R k33 33 wc w.heap.size (fun _ => True) (.slice Ao52 t1305.length co52) t1318) ∧ Aside0 (Below w.heap.size w wc))
                      case first =>
                        have H := HC51.out
                        clear HC51
                        replace H := Option.bind_eq_some_iff.mp H
                        obtain ⟨t1327, A580, H⟩ := H
                        replace H : (if t1327 = true then (laws_FnExactTxPages.j2 kj29 t1318 t1317 (t1324 != t1299)) else (laws_FnExactTxPages.j2 kj29 t1318 t1317 true)) = some r := H
                        have A58 := Aside0.mk A580
                        clear A580
                        by_cases c59 : t1327 = true
                        · subst c59
                          have H1 : (laws_FnExactTxPages.j2 kj29 t1318 t1317 (t1324 != t1299)) = some r := by rw [if_pos rfl] at H; exact H
                          clear H
                          have H := H1
                          clear H1
                          have H' := Aside0.mk H
                          clear H
                          obtain ⟨Ao60, co60, eo60⟩ := Kd.R_slice HO1326.out
                          subst eo60
                          obtain ⟨Ao61, co61, eo61⟩ := Kd.R_slice HO_8.out
                          subst eo61
                          go_wp2_with (first | ((with_reducible refine gate_callee (f := 59) rfl ?_); refine goesL_ (some 91) rfl rfl Try.func59 (by kernel_rfl) rfl #[.slice Ao60 t1323.length co60, .slice Ao61 t1298.length co61] rfl (by (try simp only [List.map_toArray, List.map_cons, List.map_nil]); first | done | rfl | (simp only [List.length_drop, List.length_take]; rfl)) ?_; (with_reducible refine (laws_eqPageS.calls kj29 _ _ t1323 _ _ t1298 true _ ?side1 ?side2 ?side3 ?side4 A58.out).mono ?_); (case side1 => repeat (first | exact (Kd.R_reads' HO1326.out).2.2 | (with_reducible refine Kd.C_alloc ?_ _) | (with_reducible refine Kd.C_drewN ?_ _) | (with_reducible refine Kd.C_drew ?_))); (case side2 => exact (Kd.R_reads' HO1326.out).2.1); (case side3 => repeat (first | exact (Kd.R_reads' HO_8.out).2.2 | (with_reducible refine Kd.C_alloc ?_ _) | (with_reducible refine Kd.C_drewN ?_ _) | (with_reducible refine Kd.C_drew ?_))); (case side4 => exact (Kd.R_reads' HO_8.out).2.1); rintro e w62 ⟨rfl, hb⟩; refine ⟨_, rfl, ?_⟩; have n0_ := Aside0.mk (Kd.R_below (by (with_reducible repeat (first | apply Kd.R_alloc | apply Kd.R_drewN | apply Kd.R_drew)); exact HO_8.out) hb); have n1_ := Aside0.mk (Kd.R_below (by (with_reducible repeat (first | apply Kd.R_alloc | apply Kd.R_drewN | apply Kd.R_drew)); exact HO_11.out) hb); have n2_ := Aside0.mk (Kd.R_below (by (with_reducible repeat (first | apply Kd.R_alloc | apply Kd.R_drewN | apply Kd.R_drew)); exact HO1322.out) hb); have n3_ := Aside0.mk (Kd.R_below (by (with_reducible repeat (first | apply Kd.R_alloc | apply Kd.R_drewN | apply Kd.R_drew)); exact HO1326.out) hb); have n4_ := Aside0.mk (below_step (by repeat (first | (with_reducible first | exact HB.out | apply below_alloc | apply pw_below_drewN | apply below_drew1) | exact HB.out)) hb); clear HO_8; clear HO_11; clear HO1322; clear HO1326; clear HB; have HO_8 := n0_; have HO_11 := n1_; have HO1322 := n2_; have HO1326 := n3_; have HB := n4_; clear n0_ n1_ n2_ n3_ n4_; (try clear hb); (try clear hb2); (try clear hk); (try clear hi)))
                          go_meet
                          case rel => exact ⟨_, ((t1324 != t1299)), (by first | rfl | (simp; done) | (simp [*]; done)), H', ⟨by have := HJ9.out; have := HJ29.out; first | omega | exact Nat.le_refl _⟩, ⟨by (with_reducible repeat (first | apply Kd.R_alloc | apply Kd.R_drewN | apply Kd.R_drew)); exact Kd.R_mono HO_11.out (fun _ hk => trivial)⟩, ⟨by repeat (first | (with_reducible first | exact HB.out | apply below_alloc | apply pw_below_drewN | apply below_drew1) | exact HB.out)⟩⟩
                        · replace c59 := Bool.eq_false_iff.mpr c59
                          subst c59
                          have H1 : (laws_FnExactTxPages.j2 kj29 t1318 t1317 true) = some r := by rw [if_neg (show ¬ (false = true) by decide)] at H; exact H
                          clear H
                          have H := H1
                          clear H1
                          have H' := Aside0.mk H
                          clear H
                          obtain ⟨Ao63, co63, eo63⟩ := Kd.R_slice HO1326.out
                          subst eo63
                          obtain ⟨Ao64, co64, eo64⟩ := Kd.R_slice HO_8.out
                          subst eo64
                          go_wp2_with (first | ((with_reducible refine gate_callee (f := 59) rfl ?_); refine goesL_ (some 91) rfl rfl Try.func59 (by kernel_rfl) rfl #[.slice Ao63 t1323.length co63, .slice Ao64 t1298.length co64] rfl (by (try simp only [List.map_toArray, List.map_cons, List.map_nil]); first | done | rfl | (simp only [List.length_drop, List.length_take]; rfl)) ?_; (with_reducible refine (laws_eqPageS.calls kj29 _ _ t1323 _ _ t1298 false _ ?side1 ?side2 ?side3 ?side4 A58.out).mono ?_); (case side1 => repeat (first | exact (Kd.R_reads' HO1326.out).2.2 | (with_reducible refine Kd.C_alloc ?_ _) | (with_reducible refine Kd.C_drewN ?_ _) | (with_reducible refine Kd.C_drew ?_))); (case side2 => exact (Kd.R_reads' HO1326.out).2.1); (case side3 => repeat (first | exact (Kd.R_reads' HO_8.out).2.2 | (with_reducible refine Kd.C_alloc ?_ _) | (with_reducible refine Kd.C_drewN ?_ _) | (with_reducible refine Kd.C_drew ?_))); (case side4 => exact (Kd.R_reads' HO_8.out).2.1); rintro e w65 ⟨rfl, hb⟩; refine ⟨_, rfl, ?_⟩; have n0_ := Aside0.mk (Kd.R_below (by (with_reducible repeat (first | apply Kd.R_alloc | apply Kd.R_drewN | apply Kd.R_drew)); exact HO_8.out) hb); have n1_ := Aside0.mk (Kd.R_below (by (with_reducible repeat (first | apply Kd.R_alloc | apply Kd.R_drewN | apply Kd.R_drew)); exact HO_11.out) hb); have n2_ := Aside0.mk (Kd.R_below (by (with_reducible repeat (first | apply Kd.R_alloc | apply Kd.R_drewN | apply Kd.R_drew)); exact HO1322.out) hb); have n3_ := Aside0.mk (Kd.R_below (by (with_reducible repeat (first | apply Kd.R_alloc | apply Kd.R_drewN | apply Kd.R_drew)); exact HO1326.out) hb); have n4_ := Aside0.mk (below_step (by repeat (first | (with_reducible first | exact HB.out | apply below_alloc | apply pw_below_drewN | apply below_drew1) | exact HB.out)) hb); clear HO_8; clear HO_11; clear HO1322; clear HO1326; clear HB; have HO_8 := n0_; have HO_11 := n1_; have HO1322 := n2_; have HO1326 := n3_; have HB := n4_; clear n0_ n1_ n2_ n3_ n4_; (try clear hb); (try clear hb2); (try clear hk); (try clear hi)))
                          go_meet
                          case rel => exact ⟨_, (true), (by first | rfl | (simp; done) | (simp [*]; done)), H', ⟨by have := HJ9.out; have := HJ29.out; first | omega | exact Nat.le_refl _⟩, ⟨by (with_reducible repeat (first | apply Kd.R_alloc | apply Kd.R_drewN | apply Kd.R_drew)); exact Kd.R_mono HO_11.out (fun _ hk => trivial)⟩, ⟨by repeat (first | (with_reducible first | exact HB.out | apply below_alloc | apply pw_below_drewN | apply below_drew1) | exact HB.out)⟩⟩
                      case rest =>
                        clear HC51
                        try clear c1
                        try clear c2
                        try clear p2
                        try clear c3
                        try clear c4
                        try clear c5
                        try clear c5b0
                        try clear c6
                        try clear c9
                        try clear c18
                        try clear c19
                        try clear c25
                        try clear c28
                        try clear c35
                        try clear c35b0
                        try clear c37
                        try clear c44
                        try clear c47
                        try clear c47b0
                        try clear c48
                        try clear c48b0
                        try clear c48b1
                        try clear c57
                        try clear c58
                        try clear c59
                        try clear c60
                        try clear c61
                        try clear c62
                        try clear c63
                        try clear p2
                        obtain ⟨kq, x97_50, rfl, HA, HJ50, HO_11, HB⟩ := hcut
                        have hl11_50 := (Kd.R_reads' HO_11.out).1
                        rw [hl11_50] at HO_11
                        (try simp only [hl11_50])
                        cases kq with
                        | zero => exact absurd HA.out (by simp [laws_FnExactTxPages.j2])
                        | succ kj50 =>
                          have H := HA.out
                          clear HA
                          simp only [laws_FnExactTxPages.j2] at H
                          by_cases c66 : x97_50 = true
                          · subst c66
                            have H1 : (some false) = some r := by rw [if_pos rfl] at H; exact H
                            clear H
                            have H := H1
                            clear H1
                            exact absurd ((Option.some.inj H).trans hT.out) (by decide)
                          · replace c66 := Bool.eq_false_iff.mpr c66
                            subst c66
                            have H1 : ((laws_heldPageS.f kj50 t1318 1).bind fun t1328 => (if t1328 < 0 then (some false) else (if t1328 = t1317 then (some true) else (some false)))) = some r := by rw [if_neg (show ¬ (false = true) by decide)] at H; exact H
                            clear H
                            have H := H1
                            clear H1
                            replace H := Option.bind_eq_some_iff.mp H
                            obtain ⟨t1328, A670, H⟩ := H
                            replace H : (if t1328 < 0 then (some false) else (if t1328 = t1317 then (some true) else (some false))) = some r := H
                            have A67 := Aside0.mk A670
                            clear A670
                            by_cases c68 : t1328 < 0
                            · rw [if_pos c68] at H
                              have c68b0 : decide (t1328 < 0) = true := decide_eq_true c68
                              clear c68
                              exact absurd ((Option.some.inj H).trans hT.out) (by decide)
                            · rw [if_neg c68] at H
                              have c68b0 : decide (t1328 < 0) = false := decide_eq_false c68
                              clear c68
                              by_cases c69 : t1328 = t1317
                              · rw [if_pos c69] at H
                                have c69b0 : (t1328 == t1317) = true := beq_iff_eq.mpr c69
                                have c69b1 : (t1328 != t1317) = false := bne_eq_false_iff_eq.mpr c69
                                clear c69
                                obtain rfl := Option.some.inj H
                                go_wp2_with (first | ((with_reducible refine gate_callee (f := 63) rfl ?_); refine goesL_ (some 100) rfl rfl Try.func63 (by kernel_rfl) rfl #[.slice Ao52 t1318.length co52, .int .i64 1] rfl (by (try simp only [List.map_toArray, List.map_cons, List.map_nil]); first | done | rfl | (simp only [List.length_drop, List.length_take]; rfl)) ?_; (with_reducible refine (laws_heldPageS.calls kj50 _ _ t1318 1 t1328 _ ?side1 ?side2 A67.out).mono ?_); (case side1 => repeat (first | exact (Kd.R_reads' HO_11.out).2.2 | (with_reducible refine Kd.C_alloc ?_ _) | (with_reducible refine Kd.C_drewN ?_ _) | (with_reducible refine Kd.C_drew ?_))); (case side2 => exact (Kd.R_reads' HO_11.out).2.1); rintro e w70 ⟨rfl, hb⟩; refine ⟨_, rfl, ?_⟩; have n0_ := Aside0.mk (Kd.R_below (by (with_reducible repeat (first | apply Kd.R_alloc | apply Kd.R_drewN | apply Kd.R_drew)); exact HO_11.out) hb); have n1_ := Aside0.mk (below_step (by repeat (first | (with_reducible first | exact HB.out | apply below_alloc | apply pw_below_drewN | apply below_drew1) | exact HB.out)) hb); clear HO_11; clear HB; have HO_11 := n0_; have HB := n1_; clear n0_ n1_; (try clear hb); (try clear hb2); (try clear hk); (try clear hi)))
                                go_ret
                                exact ⟨by first | rfl | (simp [errW_none, errW_some] <;> rfl) | (simp [*, errW_none, errW_some] <;> rfl), by repeat (first | (with_reducible first | exact HB.out | apply below_alloc | apply pw_below_drewN | apply below_drew1) | exact HB.out)⟩
                              · rw [if_neg c69] at H
                                have c69b0 : (t1328 == t1317) = false := beq_eq_false_iff_ne.mpr c69
                                have c69b1 : (t1328 != t1317) = true := bne_iff_ne.mpr c69
                                exact absurd ((Option.some.inj H).trans hT.out) (by decide)
                    · rw [if_neg c48] at H
                      have c48b0 : (t1319 == t1317) = false := beq_eq_false_iff_ne.mpr c48
                      have c48b1 : (t1319 != t1317) = true := bne_iff_ne.mpr c48
                      exact absurd ((Option.some.inj H).trans hT.out) (by decide)
          · replace c28 := Bool.eq_false_iff.mpr c28
            subst c28
            have H1 : (some false) = some r := by rw [if_neg (show ¬ (false = true) by decide)] at H; exact H
            clear H
            have H := H1
            clear H1
            exact absurd ((Option.some.inj H).trans hT.out) (by decide)

end Go.Proofs.Ytdolplcbokioaaa.PB

/- What a law's arguments, read as data, are as the print's kinds. -/
namespace Go.Proofs.Ytdolplcbokioaaa.Open
open Go.RowKit Go.Proofs.YtdolplcbokioaaaW.PrintWords

/-- A datum that is read at type t is of kind d, and each such y meets wf. -/
def Opn {α : Type} (P : Program) (t : TypeId) (d : Kd α) (wf : α → Prop) : Prop :=
  ∀ (H : Type) (enc : TypeId × Value → H) (w : World) (base : Nat) (spare : Nat → Bool) (held : Bool) (fuel : Nat) (cs : List Value) (x : DataW H × List MemPlace),
    DataW.trod enc P w base spare held fuel t cs = some x → ∃ y : α, d.K w y cs ∧ wf y

theorem opn_int {P : Program} {t : TypeId} {k : IntKind} (hu : P.underlying t = some (.int k)) : Opn P t (Kd.int k) (fun n => (Lit.int k n).wf = true) := by
  intro H enc w base spare held fuel cs x h
  obtain ⟨n, rfl, _, hw⟩ := DataW.trod_int hu h
  exact ⟨n, rfl, hw⟩
theorem opn_bool {P : Program} {t : TypeId} (hu : P.underlying t = some .bool) : Opn P t Kd.bool (fun _ => True) := by
  intro H enc w base spare held fuel cs x h
  obtain ⟨n, rfl, _⟩ := DataW.trod_bool hu h
  exact ⟨n, rfl, trivial⟩
theorem opn_string {P : Program} {t : TypeId} (hu : P.underlying t = some .string) : Opn P t Kd.string (fun s => s.size ≤ maxLen) := by
  intro H enc w base spare held fuel cs x h
  obtain ⟨n, rfl, _, hw⟩ := DataW.trod_string hu h
  exact ⟨n, rfl, hw⟩
theorem choose_list {α : Type} {Q : Nat → α → Prop} : ∀ (n : Nat), (∀ i, i < n → ∃ y, Q i y) → ∃ ys : List α, ys.length = n ∧ ∀ i y, ys[i]? = some y → Q i y
  | 0, _ => ⟨[], rfl, fun i y h => by simp at h⟩
  | n + 1, h => by
    obtain ⟨ys, hl, hq⟩ := choose_list n (fun i hi => h i (by omega))
    obtain ⟨y, hy⟩ := h n (by omega)
    refine ⟨ys ++ [y], by simp [hl], fun i z hz => ?_⟩
    rcases Nat.lt_or_ge i ys.length with hi | hi
    · rw [List.getElem?_append_left hi] at hz
      exact hq i z hz
    · rw [List.getElem?_append_right hi] at hz
      have hi2 : i - ys.length = 0 := by
        have := (List.getElem?_eq_some_iff.1 hz).1
        simp at this
        omega
      rw [hi2] at hz
      have : i = n := by omega
      subst this
      simp at hz
      subst hz
      exact hy
theorem adds (a : Addr) (m n : Nat) : (a.add m).add n = a.add (m + n) := by
  unfold Addr.add
  by_cases h1 : m = 0 <;> by_cases h2 : n = 0 <;> simp_all [Nat.add_assoc]
theorem opn_slice {α : Type} {P : Program} {t e : TypeId} {d : Kd α} {wf : α → Prop} (hu : P.underlying t = some (.slice e)) (hc : P.cellsOf e = d.sz) (ho : Opn P e d wf) :
    Opn P t (Kd.slice e d) (fun xs => xs.length ≤ maxLen ∧ ∀ x ∈ xs, wf x) := by
  intro H enc w base spare held fuel cs x h
  rcases DataW.trod_slice hu h with ⟨rfl, _⟩ | ⟨a, len, cap, elems, rest, n, _, rfl, _, hb, hl, hm, hlen, hel, _, _⟩
  · refine ⟨[], ⟨none, 0, rfl, Nat.le_refl _, rfl, by simp, fun h0 => absurd h0 (by simp)⟩, by simp, fun x hx => absurd hx (by simp)⟩
  · have each : ∀ i, i < len → ∃ y : α, ∃ c : List Value, (c.length = d.sz ∧ d.K w y c ∧ ∀ j u, c[j]? = some u → w.cell? (a.add (i * d.sz + j)) = some u) ∧ wf y := by
      intro i hi
      have h1 := hel i hi
      rw [List.getElem?_eq_getElem (by omega), Option.bind_eq_some_iff, hc] at h1
      obtain ⟨c, h2, h3⟩ := h1
      obtain ⟨_, hcl, hcell⟩ := World.cells?_some h2
      obtain ⟨y, hk, hw⟩ := ho H enc w base spare held n c _ h3
      refine ⟨y, c, ⟨hcl, hk, fun j u hj => ?_⟩, hw⟩
      have hjl : j < c.length := (List.getElem?_eq_some_iff.1 hj).1
      rw [← adds, hcell j (by omega), hj]
    obtain ⟨ys, hyl, hys⟩ := choose_list len each
    have hml : len ≤ maxLen := Nat.le_trans hl hm
    refine ⟨ys, ⟨some a, cap, by rw [hyl], by rw [hyl]; exact hl, rfl, by rw [hyl]; simpa only [maxLen] using hml, fun _ => ⟨a, rfl, fun j p hj => ?_⟩⟩, by rw [hyl]; exact hml, fun y hy => ?_⟩
    · obtain ⟨c, hq, _⟩ := hys j p hj
      exact ⟨c, hq⟩
    · obtain ⟨j, hj, he⟩ := List.getElem_of_mem hy
      obtain ⟨_, _, hw⟩ := hys j y (by rw [List.getElem?_eq_getElem hj, he])
      exact hw

/-- The fields fs, read off the cells from off on, are of kind d. -/
def OpnF {α : Type} (P : Program) (fs : List Field) (off : Nat) (d : Kd α) (wf : α → Prop) : Prop :=
  ∀ (H : Type) (enc : TypeId × Value → H) (w : World) (base : Nat) (spare : Nat → Bool) (held : Bool) (fuel : Nat) (cs : List Value), cs.length = off + d.sz →
    (∀ f ∈ fs, ∃ x, DataW.trod enc P w base spare held fuel f.type ((cs.drop f.offset).take (P.cellsOf f.type)) = some x) → ∃ y : α, d.K w y (cs.drop off) ∧ wf y
theorem opnF_one {α : Type} {P : Program} {f : Field} {off : Nat} {d : Kd α} {wf : α → Prop} (hoff : f.offset = off) (hc : P.cellsOf f.type = d.sz) (ho : Opn P f.type d wf) : OpnF P [f] off d wf := by
  intro H enc w base spare held fuel cs hl h
  obtain ⟨x, hx⟩ := h f (by simp)
  obtain ⟨y, hk, hw⟩ := ho H enc w base spare held fuel _ x hx
  rw [hoff, hc, List.take_of_length_le (by rw [List.length_drop]; omega)] at hk
  exact ⟨y, hk, hw⟩
theorem opnF_cons {α β : Type} {P : Program} {f : Field} {fs : List Field} {off : Nat} {a : Kd α} {b : Kd β} {wa : α → Prop} {wb : β → Prop} (hoff : f.offset = off) (hc : P.cellsOf f.type = a.sz) (ho : Opn P f.type a wa) (hr : OpnF P fs (off + a.sz) b wb) :
    OpnF P (f :: fs) off (Kd.pair a b) (fun p => wa p.1 ∧ wb p.2) := by
  intro H enc w base spare held fuel cs hl h
  obtain ⟨x, hx⟩ := h f (by simp)
  obtain ⟨y, hk, hw⟩ := ho H enc w base spare held fuel _ x hx
  have hsz : (Kd.pair a b).sz = a.sz + b.sz := rfl
  obtain ⟨z, hk2, hw2⟩ := hr H enc w base spare held fuel cs (by omega) (fun g hg => h g (List.mem_cons_of_mem _ hg))
  rw [hoff, hc] at hk
  refine ⟨(y, z), ⟨(cs.drop off).take a.sz, cs.drop (off + a.sz), ?_, hk, hk2⟩, hw, hw2⟩
  rw [← List.drop_drop, List.take_append_drop]
theorem opn_tuple {α : Type} {P : Program} {t : TypeId} {fs : List Field} {d : Kd α} {wf : α → Prop} (hu : P.underlying t = some (.struct fs.toArray)) (hc : P.cellsOf t = d.sz) (ho : OpnF P fs 0 d wf) :
    Opn P t d wf := by
  intro H enc w base spare held fuel cs x h
  obtain ⟨xs, n, _, _, hl, hlen, hf⟩ := DataW.trod_struct hu h
  obtain ⟨y, hk, hw⟩ := ho H enc w base spare held n cs (by omega) (fun fl hfl => by
    obtain ⟨i, hi, he⟩ := List.getElem_of_mem hfl
    have h1 := hf i fl (by simpa using (List.getElem?_eq_getElem hi).trans (congrArg some he))
    have hlen2 : xs.length = fs.length := by simpa using hlen
    exact ⟨xs[i]'(by omega), by rw [h1, List.getElem?_eq_getElem]⟩)
  exact ⟨y, by simpa using hk, hw⟩
theorem opn_struct {α β : Type} {P : Program} {t : TypeId} {fs : List Field} {d : Kd α} {wf : α → Prop} (f : β → α) (g : α → β) (hfg : ∀ a, f (g a) = a) (hu : P.underlying t = some (.struct fs.toArray)) (hc : P.cellsOf t = d.sz) (ho : OpnF P fs 0 d wf) :
    Opn P t (Kd.iso d f) (fun y => wf (f y)) := by
  intro H enc w base spare held fuel cs x h
  obtain ⟨xs, n, _, _, hl, hlen, hf⟩ := DataW.trod_struct hu h
  obtain ⟨y, hk, hw⟩ := ho H enc w base spare held n cs (by omega) (fun fl hfl => by
    obtain ⟨i, hi, he⟩ := List.getElem_of_mem hfl
    have h1 := hf i fl (by simpa using (List.getElem?_eq_getElem hi).trans (congrArg some he))
    have hlen2 : xs.length = fs.length := by simpa using hlen
    exact ⟨xs[i]'(by omega), by rw [h1, List.getElem?_eq_getElem]⟩)
  exact ⟨g y, by show d.K w (f (g y)) cs; rw [hfg]; simpa using hk, by show wf (f (g y)); rw [hfg]; exact hw⟩
end Go.Proofs.Ytdolplcbokioaaa.Open

/- Plain facts on rounds, lists and whole numbers, for the pure statements. -/
namespace Go.Proofs.Ytdolplcbokioaaa.Pu
set_option linter.unusedVariables false
set_option linter.unusedSimpArgs false
open Go.RowKit Go.Proofs.YtdolplcbokioaaaW.PrintWords

theorem w64 {x : Int} (h1 : -9223372036854775808 ≤ x) (h2 : x ≤ 9223372036854775807) : wrap64 x = x := by
  unfold wrap64; omega
theorem wsucc {i n : Nat} (h : i < n) (hn : n ≤ 9223372036854775807) : wrap64 ((i : Int) + 1) = ((i + 1 : Nat) : Int) := by
  rw [w64 (by omega) (by omega)]; rfl
theorem wf_i64 {n : Int} (h : (Lit.int .i64 n).wf = true) : -9223372036854775808 ≤ n ∧ n ≤ 9223372036854775807 := by
  simp only [Lit.wf, Bool.and_eq_true, decide_eq_true_eq] at h
  have h1 : IntKind.min .i64 = -9223372036854775808 := by decide
  have h2 : IntKind.max .i64 = 9223372036854775807 := by decide
  omega

/-- Rounds: what is told, a step on. -/
theorem ev_some {α : Type} {g : Nat → Option α} {r : α} (h : ∀ k, g (k + 1) = some r) : Ev g r := Ev.step h (Ev.now r)
theorem ev_const {α : Type} {o : Option α} {r : α} (h : o = some r) : Ev (fun _ => o) r := ⟨0, fun _ _ => h⟩
theorem ev_bind {α β : Type} {g : Nat → Option α} {f : Nat → α → Option β} {a : α} {r : β} (h : Ev g a) (k : Ev (fun n => f n a) r) : Ev (fun n => (g n).bind (f n)) r := Ev.bind h k
theorem ev_uniq {α : Type} {g : Nat → Option α} {a b : α} (h : Ev g a) (k : Ev g b) : a = b := by
  obtain ⟨K, hK⟩ := h
  obtain ⟨M, hM⟩ := k
  have h1 := hK (max K M) (Nat.le_max_left _ _)
  rw [hM (max K M) (Nat.le_max_right _ _)] at h1
  injection h1 with h1
  exact h1.symm
theorem ev_ext {α : Type} {g f : Nat → Option α} {r : α} (h : ∀ k, g k = f k) (k : Ev f r) : Ev g r := Ev.congr h k

/-- A row that is made and filled, place by place. -/
theorem ev_fill {β : Type} {L : Nat → List β → Int → Option (List β)} {E : Nat → Int → Option β} {n : Nat} {e : Nat → β} (hn : n ≤ 9223372036854775807)
    (hs : ∀ k xs i, L (k + 1) xs i = if i < (n : Int) then (if 0 ≤ i then ((E k i).bind fun b => if i < (xs.length : Int) then L k (xs.set i.toNat b) (wrap64 (i + 1)) else none) else none) else some xs)
    (hE : ∀ i, i < n → Ev (fun k => E k (i : Int)) (e i)) :
    ∀ (d i : Nat) (xs : List β), xs.length = n → i + d = n → Ev (fun k => L k xs (i : Int)) (xs.take i ++ (List.range' i d).map e) := by
  intro d
  induction d with
  | zero =>
    intro i xs hl hi
    refine ev_some fun k => ?_
    rw [hs, if_neg (by omega)]
    simp [List.take_of_length_le (show xs.length ≤ i by omega)]
  | succ d ih =>
    intro i xs hl hi
    refine Ev.step (f := fun k => (E k (i : Int)).bind fun b => L k (xs.set i b) ((i + 1 : Nat) : Int)) (fun k => ?_) ?_
    · rw [hs, if_pos (by omega), if_pos (by omega), wsucc (n := n) (by omega) hn]
      congr 1
      funext b
      rw [if_pos (by omega)]
      rfl
    · refine ev_bind (hE i (by omega)) ?_
      have h := ih (i + 1) (xs.set i (e i)) (by rw [List.length_set]; exact hl) (by omega)
      have e1 : (xs.set i (e i)).take (i + 1) ++ (List.range' (i + 1) d).map e = xs.take i ++ (List.range' i (d + 1)).map e := by
        rw [List.range'_succ, List.map_cons, List.take_succ_eq_append_getElem (by rw [List.length_set]; omega), List.getElem_set_self, List.take_set_of_le (Nat.le_refl _)]
        simp
      rw [e1] at h
      exact h
theorem map_range {α β : Type} (l : List α) (z : α) (g : α → β) : (List.range' 0 l.length).map (fun i => g (l.getD i z)) = l.map g := by
  apply List.ext_getElem
  · simp
  · intro i h1 h2
    simp only [List.length_map] at h2
    simp [List.getD_eq_getElem?_getD, List.getElem?_eq_getElem h2]
theorem ev_fill_all {α β : Type} {L : Nat → List β → Int → Option (List β)} {E : Nat → Int → Option β} {l : List α} {z : α} {g : α → β} {xs : List β} (hn : l.length ≤ 9223372036854775807)
    (hs : ∀ k xs i, L (k + 1) xs i = if i < (l.length : Int) then (if 0 ≤ i then ((E k i).bind fun b => if i < (xs.length : Int) then L k (xs.set i.toNat b) (wrap64 (i + 1)) else none) else none) else some xs)
    (hE : ∀ i, i < l.length → Ev (fun k => E k (i : Int)) (g (l.getD i z))) (hx : xs.length = l.length) : Ev (fun k => L k xs 0) (l.map g) := by
  have h := ev_fill (e := fun i => g (l.getD i z)) hn hs hE l.length 0 xs hx (by omega)
  rw [map_range] at h
  simpa using h

/-- Every place meets a test, tried place by place. -/
theorem ev_all {L E : Nat → Int → Option Bool} {n m : Nat} (hn : n ≤ 9223372036854775807) (hnm : n ≤ m)
    (hs : ∀ k i, L (k + 1) i = if i < (n : Int) then (if 0 ≤ i then (if i < (m : Int) then ((E k i).bind fun b => if b = true then L k (wrap64 (i + 1)) else some false) else none) else none) else some true)
    (hE : ∀ i, i < n → Ev (fun k => E k (i : Int)) true) : ∀ (d i : Nat), i + d = n → Ev (fun k => L k (i : Int)) true := by
  intro d
  induction d with
  | zero => intro i hi; exact ev_some fun k => by rw [hs, if_neg (by omega)]
  | succ d ih =>
    intro i hi
    refine Ev.step (f := fun k => (E k (i : Int)).bind fun b => if b = true then L k ((i + 1 : Nat) : Int) else some false) (fun k => ?_) (ev_bind (hE i (by omega)) (by simpa using ih (i + 1) (by omega)))
    rw [hs, if_pos (by omega), if_pos (by omega), if_pos (by omega), wsucc (n := n) (by omega) hn]

/-- What is left of a number, place by place, as long as it is not below 0. -/
theorem ev_size {L E : Nat → Int → Int → Option Int} {n : Nat} {P : Nat → Prop} (hn : n ≤ 9223372036854775807)
    (hs : ∀ k a i, L (k + 1) a i = if i < (n : Int) then (if 0 ≤ i then ((E k i a).bind fun t => if t < 0 then some (-1) else L k t (wrap64 (i + 1))) else none) else some a)
    (hE : ∀ i a, i < n → 0 ≤ a → a ≤ 1048576 → ∃ t, Ev (fun k => E k (i : Int) a) t ∧ t ≤ a ∧ (0 ≤ t → P i)) :
    ∀ (d i : Nat) (a : Int), i + d = n → 0 ≤ a → a ≤ 1048576 → ∃ r, Ev (fun k => L k a (i : Int)) r ∧ r ≤ a ∧ (0 ≤ r → ∀ m, i ≤ m → m < n → P m) := by
  intro d
  induction d with
  | zero => intro i a hi h0 h1; exact ⟨a, ev_some fun k => by rw [hs, if_neg (by omega)], Int.le_refl _, fun _ m h2 h3 => by omega⟩
  | succ d ih =>
    intro i a hi h0 h1
    obtain ⟨t, ht, hta, hp⟩ := hE i a (by omega) h0 h1
    have hst : ∀ k, L (k + 1) a (i : Int) = (E k (i : Int) a).bind fun t => if t < 0 then some (-1) else L k t ((i + 1 : Nat) : Int) := fun k => by
      rw [hs, if_pos (by omega), if_pos (by omega), wsucc (n := n) (by omega) hn]
    by_cases hneg : t < 0
    · exact ⟨-1, Ev.step hst (ev_bind ht (by simp only [if_pos hneg]; exact Ev.now _)), by omega, fun h => by omega⟩
    · obtain ⟨r, hr, hra, hq⟩ := ih (i + 1) t (by omega) (by omega) (by omega)
      refine ⟨r, Ev.step hst (ev_bind ht (by simp only [if_neg hneg]; exact hr)), by omega, fun h0r m h2 h3 => ?_⟩
      by_cases e : m = i
      · subst e; exact hp (by omega)
      · exact hq h0r m (by omega) h3
end Go.Proofs.Ytdolplcbokioaaa.Pu

/- When a record is right, as one test; the program's and the reference's RecOk answer it. -/
namespace Go.Proofs.Ytdolplcbokioaaa.Pu
set_option linter.unusedVariables false
set_option linter.unusedSimpArgs false
open Go.RowKit Go.Proofs.Ytdolplcbokioaaa.PB Go.Proofs.YtdolplcbokioaaaW.PrintWords

theorem in_eq' (a l h : Int) : impl_in.f a l h = some (decide (l ≤ a ∧ a ≤ h)) := by
  unfold impl_in.f
  by_cases h1 : a ≥ l
  · rw [if_pos h1]; congr 1; simp; omega
  · rw [if_neg h1]; congr 1; simp; omega
theorem l01In_eq' (a l h : Int) : spec_l01In.f a l h = some (decide (l ≤ a ∧ a ≤ h)) := by
  unfold spec_l01In.f
  by_cases h1 : a ≥ l
  · rw [if_pos h1]; congr 1; simp; omega
  · rw [if_neg h1]; congr 1; simp; omega
theorem some_dec {b : Bool} {P : Prop} [Decidable P] (h : b = true ↔ P) : some b = some (decide P) := by
  congr 1
  rw [Bool.eq_iff_iff, decide_eq_true_eq]
  exact h

/-- A record is right. -/
def recOk (t v a c : Int) : Bool := decide (0 ≤ a ∧ a ≤ 1000000000 ∧ ((t = 1 ∧ v = 0 ∧ c = 0) ∨ (1 ≤ v ∧ v ≤ 9 ∧ ((t = 2 ∧ c = 0 ∧ a ≤ 9) ∨ (t = 3 ∧ c = 0 ∧ a = 0) ∨ (t = 4 ∧ a ≤ 15 ∧ 1 ≤ c ∧ c ≤ 1000000000) ∨ (t = 5 ∧ c = 0 ∧ a ≤ 15)))))
theorem impl_RecOk_eq (k : Nat) (t v a c : Int) : impl_RecOk.f (k + 1) t v a c = some (recOk t v a c) := by
  unfold impl_RecOk.f impl_RecOk.j0 recOk
  simp only [in_eq', Option.bind_some]
  repeat' split
  all_goals (refine some_dec ?_)
  all_goals (simp only [beq_iff_eq, bne_iff_ne, ne_eq, decide_eq_true_eq, Bool.false_eq_true, false_iff, not_true_eq_false, not_false_eq_true] at *)
  all_goals omega
theorem spec_RecOk_eq (k : Nat) (t v a c : Int) : spec_RecOk.f (k + 1) t v a c = some (recOk t v a c) := by
  unfold spec_RecOk.f spec_RecOk.j0 recOk
  simp only [l01In_eq', Option.bind_some]
  repeat' split
  all_goals (refine some_dec ?_)
  all_goals (simp only [beq_iff_eq, bne_iff_ne, ne_eq, decide_eq_true_eq, Bool.false_eq_true, false_iff, not_true_eq_false, not_false_eq_true] at *)
  all_goals omega
theorem iRecOk_ev (t v a c : Int) : Ev (fun k => impl_RecOk.f k t v a c) (recOk t v a c) := ev_some fun k => impl_RecOk_eq k t v a c
theorem sRecOk_ev (t v a c : Int) : Ev (fun k => spec_RecOk.f k t v a c) (recOk t v a c) := ev_some fun k => spec_RecOk_eq k t v a c
theorem recOk_range {t v a c : Int} (h : recOk t v a c = true) : 1 ≤ t ∧ t ≤ 5 ∧ 0 ≤ v ∧ v ≤ 9 ∧ 0 ≤ a ∧ a ≤ 1000000000 ∧ 0 ≤ c ∧ c ≤ 1000000000 := by
  unfold recOk at h
  rw [decide_eq_true_eq] at h
  omega
end Go.Proofs.Ytdolplcbokioaaa.Pu

/- A number in bytes, as one list; the program's VarText and the reference's l01Var tell it. -/
namespace Go.Proofs.Ytdolplcbokioaaa.Pu
set_option linter.unusedVariables false
set_option linter.unusedSimpArgs false
open Go.RowKit Go.Proofs.Ytdolplcbokioaaa.PB Go.Proofs.YtdolplcbokioaaaW.PrintWords

/-- The bytes of a number, seven bits at a time. -/
def varL (n : Nat) : List Int := if h : n > 127 then ((n % 128 + 128 : Nat) : Int) :: varL (n / 128) else [(n : Int)]
theorem varL_long {n : Nat} (h : n > 127) : varL n = ((n % 128 + 128 : Nat) : Int) :: varL (n / 128) := by rw [varL, dif_pos h]
theorem varL_short {n : Nat} (h : ¬ n > 127) : varL n = [(n : Int)] := by rw [varL, dif_neg h]
theorem varL_len : ∀ (d n : Nat), n < 128 ^ (d + 1) → (varL n).length ≤ d + 1 ∧ 1 ≤ (varL n).length
  | 0, n, h => by rw [varL_short (by omega)]; simp
  | d + 1, n, h => by
    by_cases hn : n > 127
    · rw [varL_long hn]
      have := varL_len d (n / 128) (by rw [Nat.pow_succ] at h; omega)
      simp only [List.length_cons]
      omega
    · rw [varL_short hn]; simp
theorem varL_len5 {n : Nat} (h : n ≤ 1000000000) : (varL n).length ≤ 5 ∧ 1 ≤ (varL n).length := varL_len 4 n (by omega)
theorem wbyte {n : Nat} (h : n > 127) (hn : n ≤ 1000000000) : wrap64 (Int.tdiv (n : Int) 128) = ((n / 128 : Nat) : Int) ∧ wrap64 (Int.tmod (n : Int) 128 + 128) % 256 = ((n % 128 + 128 : Nat) : Int) := by
  rw [Int.tdiv_eq_ediv_of_nonneg (by omega), Int.tmod_eq_emod_of_nonneg (by omega), w64 (by omega) (by omega), w64 (by omega) (by omega)]
  omega
theorem sVar_ev : ∀ (d n : Nat) (acc : List Int), n < 128 ^ (d + 1) → n ≤ 1000000000 → acc.length + d ≤ 100 → Ev (fun k => spec_l01Var.l0 k n acc) (strOfNums (acc ++ varL n))
  | 0, n, acc, h, hn, ha => ev_some fun k => by
    simp only [spec_l01Var.l0]
    rw [if_neg (by omega), if_pos (by omega), varL_short (by omega), show (n : Int) % 256 = n by omega]
  | d + 1, n, acc, h, hn, ha => by
    by_cases h1 : n > 127
    · have := sVar_ev d (n / 128) (acc ++ [((n % 128 + 128 : Nat) : Int)]) (by rw [Nat.pow_succ] at h; omega) (by omega) (by simp; omega)
      rw [varL_long h1, show acc ++ ((n % 128 + 128 : Nat) : Int) :: varL (n / 128) = (acc ++ [((n % 128 + 128 : Nat) : Int)]) ++ varL (n / 128) by simp]
      refine Ev.step (fun k => ?_) this
      simp only [spec_l01Var.l0]
      rw [if_pos (by omega), if_pos (by omega), (wbyte h1 hn).1, (wbyte h1 hn).2]
    · refine ev_some fun k => ?_
      simp only [spec_l01Var.l0]
      rw [if_neg (by omega), if_pos (by omega), varL_short h1, show (n : Int) % 256 = n by omega]
theorem iVar_ev : ∀ (d n : Nat) (acc : List Int), n < 128 ^ (d + 1) → n ≤ 1000000000 → acc.length + d ≤ 100 → Ev (fun k => impl_VarText.l0 k n acc) (strOfNums (acc ++ varL n), true)
  | 0, n, acc, h, hn, ha => ev_some fun k => by
    simp only [impl_VarText.l0]
    rw [if_neg (by omega), if_pos (by omega), varL_short (by omega), show (n : Int) % 256 = n by omega]
  | d + 1, n, acc, h, hn, ha => by
    by_cases h1 : n > 127
    · have := iVar_ev d (n / 128) (acc ++ [((n % 128 + 128 : Nat) : Int)]) (by rw [Nat.pow_succ] at h; omega) (by omega) (by simp; omega)
      rw [varL_long h1, show acc ++ ((n % 128 + 128 : Nat) : Int) :: varL (n / 128) = (acc ++ [((n % 128 + 128 : Nat) : Int)]) ++ varL (n / 128) by simp]
      refine Ev.step (fun k => ?_) this
      simp only [impl_VarText.l0]
      rw [if_pos (by omega), if_pos (by omega), (wbyte h1 hn).1, (wbyte h1 hn).2]
    · refine ev_some fun k => ?_
      simp only [impl_VarText.l0]
      rw [if_neg (by omega), if_pos (by omega), varL_short h1, show (n : Int) % 256 = n by omega]
theorem l01Var_ev {n : Int} (h0 : 0 ≤ n) (h : n ≤ 1000000000) : Ev (fun k => spec_l01Var.f k n) (strOfNums (varL n.toNat)) := by
  have := sVar_ev 4 n.toNat [] (by omega) (by omega) (by simp)
  rw [List.nil_append, show ((n.toNat : Nat) : Int) = n by omega] at this
  exact this
theorem varOf_ev {n : Int} (h0 : 0 ≤ n) (h : n ≤ 1000000000) : Ev (fun k => impl_varOf.f k n) (strOfNums (varL n.toNat)) := by
  have := iVar_ev 4 n.toNat [] (by omega) (by omega) (by simp)
  rw [List.nil_append, show ((n.toNat : Nat) : Int) = n by omega] at this
  unfold impl_varOf.f impl_VarText.f
  have e : impl_in.f n 0 1000000000 = some true := by
    unfold impl_in.f
    rw [if_pos h0, decide_eq_true h]
  simp only [e, Option.bind_some, if_true]
  exact ev_bind this (Ev.now _)
theorem strOf_size (l : List Int) : (strOfNums l).size = l.length := by
  unfold strOfNums
  simp [ByteArray.size]
end Go.Proofs.Ytdolplcbokioaaa.Pu

/- The bytes of a record; the program's and the reference's RecText tell them. -/
namespace Go.Proofs.Ytdolplcbokioaaa.Pu
set_option linter.unusedVariables false
set_option linter.unusedSimpArgs false
open Go.RowKit Go.Proofs.Ytdolplcbokioaaa.PB Go.Proofs.YtdolplcbokioaaaW.PrintWords

def recText (t v a c : Int) : ByteArray := (strOfNums [(16 * t + v) % 256] ++ strOfNums (varL a.toNat)) ++ strOfNums (varL c.toNat)
def recTextR (t v a c : Int) : ByteArray × Bool := if recOk t v a c = true then (recText t v a c, true) else (⟨#[]⟩, false)
theorem iRecText_ev (t v a c : Int) : Ev (fun k => impl_RecText.f k t v a c) (recTextR t v a c) := by
  unfold impl_RecText.f recTextR
  refine ev_bind (iRecOk_ev t v a c) ?_
  by_cases h : recOk t v a c = true
  · obtain ⟨h1, h2, h3, h4, h5, h6, h7, h8⟩ := recOk_range h
    have s1 := varL_len5 (n := a.toNat) (by omega)
    have s2 := varL_len5 (n := c.toNat) (by omega)
    simp only [if_pos h, Option.bind_some]
    refine ev_bind (varOf_ev h5 h6) ?_
    rw [w64 (x := 16 * t) (by omega) (by omega), w64 (x := 16 * t + v) (by omega) (by omega)]
    simp only [strOf_size, List.length_cons, List.length_nil, if_pos (show 0 + 1 + (varL a.toNat).length ≤ 9223372036854775807 by omega)]
    refine ev_bind (varOf_ev h7 h8) ?_
    simp only [strOf_size, if_pos (show 0 + 1 + (varL a.toNat).length + (varL c.toNat).length ≤ 9223372036854775807 by omega)]
    exact Ev.now _
  · simp only [if_neg h]
    exact Ev.now _
theorem sRecText_ev (t v a c : Int) : Ev (fun k => spec_RecText.f k t v a c) (recTextR t v a c) := by
  unfold spec_RecText.f recTextR spec_l06Byte.f
  refine ev_bind (sRecOk_ev t v a c) ?_
  by_cases h : recOk t v a c = true
  · obtain ⟨h1, h2, h3, h4, h5, h6, h7, h8⟩ := recOk_range h
    have s1 := varL_len5 (n := a.toNat) (by omega)
    have s2 := varL_len5 (n := c.toNat) (by omega)
    simp only [if_pos h, Option.bind_some]
    refine ev_bind (l01Var_ev h5 h6) ?_
    rw [w64 (x := 16 * t) (by omega) (by omega), w64 (x := 16 * t + v) (by omega) (by omega)]
    simp only [strOf_size, List.length_cons, List.length_nil, if_pos (show 0 + 1 + (varL a.toNat).length ≤ 9223372036854775807 by omega)]
    refine ev_bind (l01Var_ev h7 h8) ?_
    simp only [strOf_size, if_pos (show 0 + 1 + (varL a.toNat).length + (varL c.toNat).length ≤ 9223372036854775807 by omega)]
    exact Ev.now _
  · simp only [if_neg h]
    exact Ev.now _
end Go.Proofs.Ytdolplcbokioaaa.Pu

/- The pages of a transaction; the program's and the reference's TxPages tell them; marks and copies of pages and records. -/
namespace Go.Proofs.Ytdolplcbokioaaa.Pu
set_option linter.unusedVariables false
set_option linter.unusedSimpArgs false
open Go.RowKit Go.Proofs.Ytdolplcbokioaaa.PB Go.Proofs.YtdolplcbokioaaaW.PrintWords

theorem rdTP_nat (l : List S33) (i : Nat) : rd_T33 l (i : Int) = l.getD i z33 := rfl
theorem rdTR_nat (l : List S90) (i : Nat) : rd_T90 l (i : Int) = l.getD i z90 := rfl
theorem rdTL_nat (l : List S160) (i : Nat) : rd_T160 l (i : Int) = l.getD i z160 := rfl
theorem rdOfT_nat {α : Type} (z : α) (l : List α) (i : Nat) : rdOf z l (i : Int) = l.getD i z := rfl
theorem getDset {α : Type} {l : List α} {c : Nat} (i : Nat) (v z : α) (hc : c < l.length) : (l.set c v).getD i z = if i = c then v else l.getD i z := by
  rw [List.getD_eq_getElem?_getD, List.getD_eq_getElem?_getD, List.getElem?_set]
  by_cases h : c = i
  · subst h; simp [hc]
  · rw [if_neg h, if_neg (fun e => h e.symm)]
theorem dropT {α : Type} {l : List α} {i : Nat} (z : α) (h : i < l.length) : l.drop i = l.getD i z :: l.drop (i + 1) := by
  rw [List.drop_eq_getElem_cons h, List.getD_eq_getElem?_getD, List.getElem?_eq_getElem h]; rfl
theorem empty_app (t : ByteArray) : (⟨#[]⟩ : ByteArray) ++ t = t := ByteArray.empty_append

def lastT (ts : List ByteArray) : ByteArray := ts.getD (ts.length - 1) ByteArray.empty
def txF (ts : List ByteArray) (t : ByteArray) : List ByteArray := if ((lastT ts).size : Int) + (t.size : Int) > 90 then ts ++ [t] else ts.set (ts.length - 1) (lastT ts ++ t)
def txs : List S90 → List ByteArray → Option (List ByteArray)
  | [], ts => some ts
  | r :: rs, ts => if recOk r.f0 r.f1 r.f2 r.f3 = true then txs rs (txF ts (recText r.f0 r.f1 r.f2 r.f3)) else none
def pageB (s x : Int) (ts : List ByteArray) (i : Nat) : S33 := ⟨2, wrap64 (s + (i : Int)), x, (i : Int), (ts.length : Int), ts.getD i ByteArray.empty⟩
def pagesB (s x : Int) (ts : List ByteArray) : List S33 := (List.range' 0 ts.length).map (pageB s x ts)
def txFin (s x : Int) : Option (List ByteArray) → List S33 × Bool
  | none => ([], false)
  | some ts => if (ts.length : Int) > 9 then ([], false) else if 1 ≤ s ∧ s ≤ wrap64 (wrap64 (1000000000 - (ts.length : Int)) + 1) then (if 1 ≤ x ∧ x ≤ 1000000000 then (pagesB s x ts, true) else ([], false)) else ([], false)
theorem txFin_len (s x : Int) (o : Option (List ByteArray)) : (txFin s x o).1.length ≤ 9 := by
  cases o with
  | none => simp [txFin]
  | some ts =>
    unfold txFin
    by_cases h : (ts.length : Int) > 9
    · simp [h]
    · simp only [if_neg h]
      by_cases h2 : 1 ≤ s ∧ s ≤ wrap64 (wrap64 (1000000000 - (ts.length : Int)) + 1)
      · by_cases h3 : 1 ≤ x ∧ x ≤ 1000000000
        · simp only [if_pos h2, if_pos h3, pagesB, List.length_map, List.length_range']; omega
        · simp only [if_pos h2, if_neg h3]; simp
      · simp only [if_neg h2]; simp
theorem recText_size {t v a c : Int} (h : recOk t v a c = true) : (recText t v a c).size ≤ 11 := by
  obtain ⟨h1, h2, h3, h4, h5, h6, h7, h8⟩ := recOk_range h
  have s1 := varL_len5 (n := a.toNat) (by omega)
  have s2 := varL_len5 (n := c.toNat) (by omega)
  unfold recText
  rw [ByteArray.size_append, ByteArray.size_append, strOf_size, strOf_size, strOf_size]
  simp
  omega
theorem txF_last {ts : List ByteArray} {t : ByteArray} (h0 : 0 < ts.length) (ht : t.size ≤ 11) : (lastT (txF ts t)).size ≤ 90 ∧ 0 < (txF ts t).length ∧ (txF ts t).length ≤ ts.length + 1 := by
  unfold txF
  by_cases h : ((lastT ts).size : Int) + (t.size : Int) > 90
  · rw [if_pos h]
    refine ⟨?_, by simp, by simp⟩
    unfold lastT
    rw [List.length_append, List.length_singleton, Nat.add_sub_cancel, List.getD_eq_getElem?_getD, List.getElem?_append_right (Nat.le_refl _)]
    simp
    omega
  · rw [if_neg h]
    refine ⟨?_, by rw [List.length_set]; exact h0, by rw [List.length_set]; omega⟩
    unfold lastT at h ⊢
    rw [List.length_set, getDset _ _ _ (by omega), if_pos rfl, ByteArray.size_append]
    omega
theorem wpredT {i : Nat} (h : 0 < i) (hn : i ≤ 9223372036854775807) : wrap64 ((i : Int) - 1) = ((i - 1 : Nat) : Int) := by
  rw [w64 (by omega) (by omega)]; omega
theorem iTx1_ev (s x : Int) (ts : List ByteArray) (hl : ts.length ≤ 9) : ∀ (d i : Nat) (acc : List S33), i + d = ts.length → acc.length = i → Ev (fun k => impl_TxPages.l1 k s x (ts.length : Int) acc ts (ts.length : Int) (i : Int)) (acc ++ (List.range' i d).map (pageB s x ts), true) := by
  intro d
  induction d with
  | zero => intro i acc hi ha; exact ev_some fun k => by simp only [impl_TxPages.l1]; rw [if_neg (by omega)]; simp
  | succ d ih =>
    intro i acc hi ha
    have h := ih (i + 1) (acc ++ [pageB s x ts i]) (by omega) (by simp; omega)
    rw [List.append_assoc, List.singleton_append] at h
    rw [List.range'_succ, List.map_cons]
    refine Ev.step (fun k => ?_) h
    simp only [impl_TxPages.l1]
    rw [if_pos (by omega), if_pos (by omega), if_pos (by omega), if_pos (by omega), wsucc (i := i) (n := ts.length) (by omega) (by omega), rdOfT_nat]
    rfl
theorem sTx1_ev (s x : Int) (ts : List ByteArray) (hl : ts.length ≤ 9) : ∀ (d i : Nat) (acc : List S33), i + d = ts.length → acc.length = i → Ev (fun k => spec_TxPages.l1 k s x ts acc (i : Int)) (acc ++ (List.range' i d).map (pageB s x ts), true) := by
  intro d
  induction d with
  | zero => intro i acc hi ha; exact ev_some fun k => by simp only [spec_TxPages.l1]; rw [if_neg (by omega)]; simp
  | succ d ih =>
    intro i acc hi ha
    have h := ih (i + 1) (acc ++ [pageB s x ts i]) (by omega) (by simp; omega)
    rw [List.append_assoc, List.singleton_append] at h
    rw [List.range'_succ, List.map_cons]
    refine Ev.step (fun k => ?_) h
    simp only [spec_TxPages.l1]
    rw [if_pos (by omega), if_pos (by omega), if_pos (by omega), wsucc (i := i) (n := ts.length) (by omega) (by omega), rdOfT_nat]
    rfl
theorem ev_step_bind {α β : Type} {L : Nat → Option β} {g : Nat → Option α} {F : Nat → α → Option β} {a : α} {r : β} (hg : Ev g a) (hL : ∀ k, L (k + 1) = (g k).bind (F k)) (h : Ev (fun k => F k a) r) : Ev L r := Ev.step (f := fun k => (g k).bind (F k)) hL (Ev.bind hg h)
theorem iTx_ev (s x : Int) (recs : List S90) (hr : recs.length ≤ 1048576) : Ev (fun k => impl_TxPages.f k s x recs) (txFin s x (txs recs [⟨#[]⟩])) := by
  have main : ∀ (d i : Nat) (ts : List ByteArray), i + d = recs.length → 0 < ts.length → ts.length ≤ 1 + i → (lastT ts).size ≤ 90 → Ev (fun k => impl_TxPages.l0 k s x ts recs (recs.length : Int) (i : Int)) (txFin s x (txs (recs.drop i) ts)) := by
    intro d
    induction d with
    | zero =>
      intro i ts hi h0 hl hs
      rw [List.drop_eq_nil_of_le (by omega)]
      have no : Ev (fun k => impl_TxPages.j1 k s x ts (ts.length : Int) true) (([] : List S33), false) := ev_some fun k => by simp only [impl_TxPages.j1]; rw [if_pos trivial]
      unfold txs txFin
      by_cases h : (ts.length : Int) > 9
      · simp only [if_pos h]
        refine Ev.step (fun k => ?_) no
        simp only [impl_TxPages.l0]
        rw [if_neg (by omega), if_pos h]
      · simp only [if_neg h]
        by_cases h2 : 1 ≤ s ∧ s ≤ wrap64 (wrap64 (1000000000 - (ts.length : Int)) + 1)
        · by_cases h3 : 1 ≤ x ∧ x ≤ 1000000000
          · simp only [if_pos h2, if_pos h3]
            refine Ev.step (f := fun k => impl_TxPages.j1 k s x ts (ts.length : Int) false) (fun k => ?_) (Ev.step (fun k => ?_) (iTx1_ev s x ts (by omega) ts.length 0 [] (by omega) rfl))
            · simp only [impl_TxPages.l0]
              rw [if_neg (by omega), if_neg h, in_eq', in_eq', Option.bind_some, decide_eq_true h2, if_pos rfl, Option.bind_some, decide_eq_true h3]; rfl
            · simp only [impl_TxPages.j1]
              rw [if_neg (by decide)]; rfl
          · simp only [if_pos h2, if_neg h3]
            refine Ev.step (fun k => ?_) no
            simp only [impl_TxPages.l0]
            rw [if_neg (by omega), if_neg h, in_eq', in_eq', Option.bind_some, decide_eq_true h2, if_pos rfl, Option.bind_some, decide_eq_false h3]; rfl
        · simp only [if_neg h2]
          refine Ev.step (fun k => ?_) no
          simp only [impl_TxPages.l0]
          rw [if_neg (by omega), if_neg h, in_eq', Option.bind_some, decide_eq_false h2, if_neg (by decide)]
    | succ d ih =>
      intro i ts hi h0 hl hs
      have hil : i < recs.length := by omega
      rw [dropT z90 hil]
      have hR : rd_T90 recs (i : Int) = recs.getD i z90 := rfl
      revert hR
      generalize recs.getD i z90 = r
      intro hR
      unfold txs
      have hT := iRecText_ev r.f0 r.f1 r.f2 r.f3
      unfold recTextR at hT
      by_cases h : recOk r.f0 r.f1 r.f2 r.f3 = true
      · rw [if_pos h] at hT
        rw [if_pos h]
        have hz := recText_size h
        have hih := ih (i + 1) (txF ts (recText r.f0 r.f1 r.f2 r.f3)) (by omega) (txF_last h0 hz).2.1 (by have := (txF_last (t := recText r.f0 r.f1 r.f2 r.f3) h0 hz).2.2; omega) (txF_last h0 hz).1
        revert hT hih hz
        generalize recText r.f0 r.f1 r.f2 r.f3 = t
        intro hT hz hih
        apply ev_step_bind hT
        case hL =>
          intro k
          simp only [impl_TxPages.l0]
          rw [if_pos (by omega), if_pos (by omega), if_pos (by omega), hR, wsucc (i := i) (n := recs.length) hil (by omega)]
        have er : rdOf ByteArray.empty ts ((ts.length - 1 : Nat) : Int) = lastT ts := rfl
        have ew : wrap64 (((lastT ts).size : Int) + (t.size : Int)) = ((lastT ts).size : Int) + (t.size : Int) := w64 (by omega) (by omega)
        simp only [if_true, wpredT h0 (by omega), er, ew, if_pos (show (0 : Int) ≤ ((ts.length - 1 : Nat) : Int) by omega), if_pos (show ((ts.length - 1 : Nat) : Int) < (ts.length : Int) by omega)]
        unfold txF at hih ⊢
        by_cases h6 : ((lastT ts).size : Int) + (t.size : Int) > 90
        · have e1 : wrap64 (((ts.length - 1 : Nat) : Int) + 1) = (ts.length : Int) := by rw [w64 (by omega) (by omega)]; omega
          have e2 : rdOf ByteArray.empty (ts ++ [(⟨#[]⟩ : ByteArray)]) (ts.length : Int) = ⟨#[]⟩ := by
            show (ts ++ [(⟨#[]⟩ : ByteArray)]).getD ts.length ByteArray.empty = _
            rw [List.getD_eq_getElem?_getD, List.getElem?_append_right (Nat.le_refl _), Nat.sub_self]; rfl
          have e3 : (ts ++ [(⟨#[]⟩ : ByteArray)]).set ts.length t = ts ++ [t] := by
            rw [List.set_append_right _ _ (Nat.le_refl _), Nat.sub_self]; rfl
          simp only [if_pos h6, if_pos (show ts.length < 8796093022208 by omega), Option.bind_some, e1, e2, if_pos (show (0 : Int) ≤ (ts.length : Int) by omega), if_pos (show (ts.length : Int) < ((ts ++ [(⟨#[]⟩ : ByteArray)]).length : Int) by rw [List.length_append, List.length_singleton]; omega), Int.toNat_natCast, empty_app, e3] at hih ⊢
          rw [show (⟨#[]⟩ : ByteArray).size = 0 from rfl]
          simp only [if_pos (show 0 + t.size ≤ 9223372036854775807 by omega)]
          exact hih
        · simp only [if_neg h6, if_pos (show (lastT ts).size + t.size ≤ 9223372036854775807 by omega), Int.toNat_natCast] at hih ⊢
          exact hih
      · rw [if_neg h] at hT
        rw [if_neg h]
        apply ev_step_bind hT
        case hL =>
          intro k
          simp only [impl_TxPages.l0]
          rw [if_pos (by omega), if_pos (by omega), if_pos (by omega), hR, wsucc (i := i) (n := recs.length) hil (by omega)]
        simp only [Bool.false_eq_true, if_false]
        exact Ev.now _
  exact main recs.length 0 [⟨#[]⟩] (by omega) (by simp) (by simp) (by show (⟨#[]⟩ : ByteArray).size ≤ 90; decide)
theorem sTx_ev (s x : Int) (recs : List S90) (hr : recs.length ≤ 1048576) : Ev (fun k => spec_TxPages.f k s x recs) (txFin s x (txs recs [⟨#[]⟩])) := by
  have main : ∀ (d i : Nat) (ts : List ByteArray), i + d = recs.length → 0 < ts.length → ts.length ≤ 1 + i → (lastT ts).size ≤ 90 → Ev (fun k => spec_TxPages.l0 k s x recs [] ts (i : Int)) (txFin s x (txs (recs.drop i) ts)) := by
    intro d
    induction d with
    | zero =>
      intro i ts hi h0 hl hs
      rw [List.drop_eq_nil_of_le (by omega)]
      have no : Ev (fun k => spec_TxPages.j1 k s x [] ts true) (([] : List S33), false) := ev_some fun k => by simp only [spec_TxPages.j1]; rw [if_pos trivial]
      unfold txs txFin
      by_cases h : (ts.length : Int) > 9
      · simp only [if_pos h]
        refine Ev.step (fun k => ?_) no
        simp only [spec_TxPages.l0]
        rw [if_neg (by omega), if_pos h]
      · simp only [if_neg h]
        by_cases h2 : 1 ≤ s ∧ s ≤ wrap64 (wrap64 (1000000000 - (ts.length : Int)) + 1)
        · by_cases h3 : 1 ≤ x ∧ x ≤ 1000000000
          · simp only [if_pos h2, if_pos h3]
            refine Ev.step (f := fun k => spec_TxPages.j1 k s x [] ts false) (fun k => ?_) (Ev.step (fun k => ?_) (sTx1_ev s x ts (by omega) ts.length 0 [] (by omega) rfl))
            · simp only [spec_TxPages.l0]
              rw [if_neg (by omega), if_neg h, l01In_eq', l01In_eq', Option.bind_some, decide_eq_true h2, if_pos rfl, Option.bind_some, decide_eq_true h3]; rfl
            · simp only [spec_TxPages.j1]
              rw [if_neg (by decide)]; rfl
          · simp only [if_pos h2, if_neg h3]
            refine Ev.step (fun k => ?_) no
            simp only [spec_TxPages.l0]
            rw [if_neg (by omega), if_neg h, l01In_eq', l01In_eq', Option.bind_some, decide_eq_true h2, if_pos rfl, Option.bind_some, decide_eq_false h3]; rfl
        · simp only [if_neg h2]
          refine Ev.step (fun k => ?_) no
          simp only [spec_TxPages.l0]
          rw [if_neg (by omega), if_neg h, l01In_eq', Option.bind_some, decide_eq_false h2, if_neg (by decide)]
    | succ d ih =>
      intro i ts hi h0 hl hs
      have hil : i < recs.length := by omega
      rw [dropT z90 hil]
      have hR : rd_T90 recs (i : Int) = recs.getD i z90 := rfl
      revert hR
      generalize recs.getD i z90 = r
      intro hR
      unfold txs
      have hT := sRecText_ev r.f0 r.f1 r.f2 r.f3
      unfold recTextR at hT
      by_cases h : recOk r.f0 r.f1 r.f2 r.f3 = true
      · rw [if_pos h] at hT
        rw [if_pos h]
        have hz := recText_size h
        have hih := ih (i + 1) (txF ts (recText r.f0 r.f1 r.f2 r.f3)) (by omega) (txF_last h0 hz).2.1 (by have := (txF_last (t := recText r.f0 r.f1 r.f2 r.f3) h0 hz).2.2; omega) (txF_last h0 hz).1
        revert hT hih hz
        generalize recText r.f0 r.f1 r.f2 r.f3 = t
        intro hT hz hih
        apply ev_step_bind hT
        case hL =>
          intro k
          simp only [spec_TxPages.l0]
          rw [if_pos (by omega), if_pos (by omega), hR, wsucc (i := i) (n := recs.length) hil (by omega)]
        have er : rdOf ByteArray.empty ts ((ts.length - 1 : Nat) : Int) = lastT ts := rfl
        have ew : wrap64 (((lastT ts).size : Int) + (t.size : Int)) = ((lastT ts).size : Int) + (t.size : Int) := w64 (by omega) (by omega)
        simp only [if_true, wpredT h0 (by omega), er, ew, if_pos (show (0 : Int) ≤ ((ts.length - 1 : Nat) : Int) by omega), if_pos (show ((ts.length - 1 : Nat) : Int) < (ts.length : Int) by omega)]
        unfold txF at hih ⊢
        by_cases h6 : ((lastT ts).size : Int) + (t.size : Int) > 90
        · simp only [if_pos h6, if_pos (show ts.length < 8796093022208 by omega)] at hih ⊢
          exact hih
        · simp only [if_neg h6, if_pos (show (lastT ts).size + t.size ≤ 9223372036854775807 by omega), Int.toNat_natCast] at hih ⊢
          exact hih
      · rw [if_neg h] at hT
        rw [if_neg h]
        apply ev_step_bind hT
        case hL =>
          intro k
          simp only [spec_TxPages.l0]
          rw [if_pos (by omega), if_pos (by omega), hR, wsucc (i := i) (n := recs.length) hil (by omega)]
        simp only [Bool.false_eq_true, if_false]
        exact Ev.now _
  exact main recs.length 0 [⟨#[]⟩] (by omega) (by simp) (by simp) (by show (⟨#[]⟩ : ByteArray).size ≤ 90; decide)
end Go.Proofs.Ytdolplcbokioaaa.Pu

/- Functions of the translation as plain Lean functions, and for each that its call comes to just what its Lean function answers; its conditions stand in each theorem. Written by a program of this session. -/
namespace Go.Proofs.Ytdolplcbokioaaa.PB
open Go.RowKit Go.Proofs.YtdolplcbokioaaaW.PrintWords Go.Proofs.YtdolplcbokioaaaW.PrintLast Go.Proofs.YtdolplcbokioaaaW.PrintMore
attribute [local go_sem] max2_int min2_int max_two min_two max_three min_three max_four min_four   -- for this text's walks alone
set_option linter.unusedVariables false
set_option linter.unusedSimpArgs false

/-! ### laws_markIntS: function 75 -/
def laws_markIntS.l0 : Nat → List Int → Int → Int → Option (Int × List Int)
  | 0, _, _, _ => none
  | k + 1, x0, x1, x5 => if x5 < (x0.length : Int) then (if 0 ≤ x5 then (laws_markIntS.l0 k (x0.set (x5 : Int).toNat x1) (wrap64 (x1 + 1)) (wrap64 (x5 + 1))) else (none)) else (some (x1, x0))
def laws_markIntS.f (k : Nat) (l0 : List Int) (a1 : Int) : Option (Int × List Int) := laws_markIntS.l0 k l0 a1 0
theorem laws_markIntS.mono_l : ∀ k, (∀ y0 y1 y2, LeO (laws_markIntS.l0 k y0 y1 y2) (laws_markIntS.l0 (k + 1) y0 y1 y2))
  | 0 => fun _ _ _ r h => by simp [laws_markIntS.l0] at h
  | k + 1 => by
    have ih0 := laws_markIntS.mono_l k
    · intro y0 y1 y2
      unfold laws_markIntS.l0
      repeat' first
      | (with_reducible exact ih0 _ _ _)
      | (with_reducible exact LeO.refl _)
      | (with_reducible exact LeO.none _)
      | (with_reducible refine LeO.ite ?_ ?_)
      | (with_reducible refine LeO.bind ?_ (fun _ => ?_))
      | exact ih0 _ _ _
      | exact LeO.none _
      | refine LeO.ite ?_ ?_
      | refine LeO.bind ?_ (fun _ => ?_)
theorem laws_markIntS.mono : ∀ a0 a1 k, LeO (laws_markIntS.f k a0 a1) (laws_markIntS.f (k + 1) a0 a1) := by
  intro a0 a1 k
  have ih0 := laws_markIntS.mono_l k
  unfold laws_markIntS.f
  repeat' first
      | (with_reducible exact ih0 _ _ _)
      | (with_reducible exact LeO.refl _)
      | (with_reducible exact LeO.none _)
      | (with_reducible refine LeO.ite ?_ ?_)
      | (with_reducible refine LeO.bind ?_ (fun _ => ?_))
      | exact ih0 _ _ _
      | exact LeO.none _
      | refine LeO.ite ?_ ?_
      | refine LeO.bind ?_ (fun _ => ?_)
set_option maxHeartbeats 8000000 in
set_option maxRecDepth 100000 in
theorem laws_markIntS.calls (k : Nat) (P0_ : Nat → Prop) (u9000_ : Value) (l0 : List Int) (a1 : Int) (r1 : Int) (r2 : List Int) (w0 w : World) (hB : Below w0.heap.size w0 w) (ho0 : Kd.R (Kd.int .i64) 3 w w0.heap.size P0_ u9000_ l0) (h : laws_markIntS.f k l0 a1 = some (r1, r2)) :
    Calls Try.prog 75 #[u9000_, .int .i64 a1] w fun e w' => e = .returned (.int .i64 r1) ∧ Kd.R (Kd.int .i64) 3 w' w0.heap.size (fun k_ => (P0_ k_ ∨ w.heap.size ≤ k_)) u9000_ r2 ∧ Below w0.heap.size w0 w' ∧ Kept w w' (fun k_ => P0_ k_) := by
  have HO0 := Aside0.mk (show Kd.R (Kd.int .i64) 3 w w0.heap.size (fun k_ => (P0_ k_ ∨ w.heap.size ≤ k_)) u9000_ l0 from Kd.R_mono ho0 (fun k_ hk => (.inl hk)))
  have HK := Aside0.mk (Kept.refl w (fun k_ => P0_ k_))
  have HW0 := Aside0.mk hB.size
  have HB := Aside0.mk hB
  clear hB
  have H : (laws_markIntS.l0 k l0 a1 0) = some (r1, r2) := h
  clear h
  have H' := Aside0.mk H
  clear H
  go_enter Try.func75, Try.ntmps75
  go_wp2
  go_loopg [1, 5] k (fun kq v1 v5 w' => ∃ (x0_1 : List Int) (x1_1 : Int) (x5_1 : Int), v1 = .int .i64 x1_1 ∧ v5 = .int .i64 x5_1 ∧ Aside0 (laws_markIntS.l0 kq x0_1 x1_1 x5_1 = some (r1, r2)) ∧ Aside0 (kq ≤ k) ∧ Aside0 (Kd.R (Kd.int .i64) 3 w' w0.heap.size (fun k_ => (P0_ k_ ∨ w.heap.size ≤ k_)) u9000_ x0_1) ∧ Aside0 (Kept w w' (fun k_ => P0_ k_)) ∧ Aside0 (Below w0.heap.size w0 w'))
  case atStart => exact ⟨(l0), (a1), (0), (by first | rfl | (simp; done) | (simp [*]; done)), (by first | rfl | (simp; done) | (simp [*]; done)), H', ⟨Nat.le_refl _⟩, ⟨by (with_reducible repeat (first | apply Kd.R_alloc | apply Kd.R_drewN | apply Kd.R_drew)); exact HO0.out⟩, ⟨by repeat (first | (with_reducible first | exact HK.out | apply Kept.alloc | apply Kept.drewN | apply Kept.drew) | exact HK.out)⟩, ⟨by repeat (first | (with_reducible first | exact HB.out | apply below_alloc | apply pw_below_drewN | apply below_drew1) | exact HB.out)⟩⟩
  case round =>
    clear H'
    try clear p2
    obtain ⟨x0_1, x1_1, x5_1, rfl, rfl, HA, HK1, HO_0, HK, HB⟩ := hrel
    cases gk with
    | zero => exact absurd HA.out (by simp [laws_markIntS.l0])
    | succ k1 =>
      have H := HA.out
      clear HA
      simp only [laws_markIntS.l0] at H
      by_cases c3 : x5_1 < (x0_1.length : Int)
      · rw [if_pos c3] at H
        have c3b0 : decide (x5_1 < (x0_1.length : Int)) = true := decide_eq_true c3
        clear c3
        by_cases c4 : 0 ≤ x5_1
        · rw [if_pos c4] at H
          have c4b0 : decide (0 ≤ x5_1) = true := decide_eq_true c4
          clear c4
          obtain ⟨y869, hy869⟩ : ∃ y_ : List Int, y_ = (x0_1.set (x5_1 : Int).toNat x1_1) := ⟨_, rfl⟩
          replace H : (laws_markIntS.l0 k1 y869 (wrap64 (x1_1 + 1)) (wrap64 (x5_1 + 1))) = some (r1, r2) := by first | (rw [hy869]; with_reducible exact H) | (have H2_ := (Option.bind_some _ _).symm.trans H; rw [hy869]; with_reducible exact H2_) | (have H2_ := (Option.bind_some _ _).symm.trans H; with_reducible exact H2_) | with_reducible exact H | (rw [hy869]; exact H) | exact H
          have Ny869 := Aside0.mk hy869
          clear hy869
          have H' := Aside0.mk H
          clear H
          obtain ⟨Ao6, co6, eo6⟩ := Kd.R_slice HO_0.out
          subst eo6
          have p5 : 0 ≤ (x5_1 : Int) := of_decide_eq_true (by first | (with_reducible assumption) | assumption)
          have q5 : (x5_1 : Int) < ((x0_1.length : Int) : Int) := of_decide_eq_true (by first | (with_reducible assumption) | assumption)
          obtain ⟨go5, co5, eo5, gb5, gl5, cl5, HG5⟩ := Kd.R_form HO_0.out (by omega)
          (first | cases eo5 | (injection eo5 with ea_ en_ ec_; (first | subst ea_ | (injection ea_ with ea_; subst ea_)); subst ec_; clear en_))
          have GB5 := Aside0.mk gb5
          have GG5 := Aside0.mk HG5
          clear gb5 gl5 HG5
          have HMgo5 := Aside0.mk (show (P0_ go5 ∨ w.heap.size ≤ go5) from (HO_0.out.1 _ rfl))
          obtain ⟨hx5_0, hf5_0⟩ := Kd.R_celln 0 HO_0.out (x5_1 : Int) p5 q5
          replace p5 := eq_true p5
          replace q5 := eq_true q5
          have HP7 := Kd.R_putg HO_0.out (x5_1 : Int) x1_1
          go_wp2_with (first | ((with_reducible refine gate_store (t := 3) (p := 15) rfl ?_); refine store_event (t := 3) (p := 15) (v := ?vo_w8) (w1 := (wr.setCell ⟨go5, (x5_1 : Int).toNat, none⟩ (.int .i64 x1_1))) ?hg ?ho ?hn ?hr ?_; (case ho => rfl); (case hg => rfl); (case hn => rfl); (case hr => first | (go_simp; done) | (go_simp; rfl)); intro w8 hw; have hg : wr.grownBy w8 (some go5) := (by rw [hw]; exact HP7.2); have hp_ : Kd.R (Kd.int .i64) 3 w8 w0.heap.size (fun k_ => (P0_ k_ ∨ w.heap.size ≤ k_)) (.slice (some ⟨go5, 0, none⟩) x0_1.length co6) y869 := (by rw [hw, Ny869.out]; exact HP7.1); clear HP7; have n0_ := Aside0.mk (hp_); have n1_ := Aside0.mk ((by rw [hw]; exact below_set (HB.out) GB5.out : Below w0.heap.size w0 w8)); have n2_ := Aside0.mk (Kept.of_grown (S := (fun k_ => P0_ k_)) hg (by repeat (first | (with_reducible first | exact HK.out | apply Kept.alloc | apply Kept.drewN | apply Kept.drew) | exact HK.out)) (fun k_ e_ => (HO_0.out.1 k_ e_))); clear HO_0; clear HB; clear HK; have HO_0 := n0_; have HB := n1_; have HK := n2_; clear n0_ n1_ n2_; clear hg hw hp_))
          go_roundg k1
          case measure => have := HK1.out; omega
          case rel => exact ⟨(y869), (wrap64 (x1_1 + 1)), (wrap64 (x5_1 + 1)), (by first | rfl | (simp; done) | (simp [*]; done)), (by first | rfl | (simp; done) | (simp [*]; done)), H', ⟨by have := HK1.out; omega⟩, ⟨by (with_reducible repeat (first | apply Kd.R_alloc | apply Kd.R_drewN | apply Kd.R_drew)); exact HO_0.out⟩, ⟨by repeat (first | (with_reducible first | exact HK.out | apply Kept.alloc | apply Kept.drewN | apply Kept.drew) | exact HK.out)⟩, ⟨by repeat (first | (with_reducible first | exact HB.out | apply below_alloc | apply pw_below_drewN | apply below_drew1) | exact HB.out)⟩⟩
        · rw [if_neg c4] at H
          exact absurd H (by simp)
      · rw [if_neg c3] at H
        have c3b0 : decide (x5_1 < (x0_1.length : Int)) = false := decide_eq_false c3
        clear c3
        simp only [Option.some.injEq, Prod.mk.injEq] at H
        obtain ⟨rfl, rfl⟩ := H
        obtain ⟨Ao9, co9, eo9⟩ := Kd.R_slice HO_0.out
        subst eo9
        go_wp2
        go_ret
        exact ⟨by first | rfl | (simp [errW_none, errW_some] <;> rfl) | (simp [*, errW_none, errW_some] <;> rfl), by (with_reducible repeat (first | apply Kd.R_alloc | apply Kd.R_drewN | apply Kd.R_drew)); exact HO_0.out, by repeat (first | (with_reducible first | exact HB.out | apply below_alloc | apply pw_below_drewN | apply below_drew1) | exact HB.out), by repeat (first | (with_reducible first | exact HK.out | apply Kept.alloc | apply Kept.drewN | apply Kept.drew) | exact HK.out)⟩

end Go.Proofs.Ytdolplcbokioaaa.PB

/- Functions of the translation as plain Lean functions, and for each that its call comes to just what its Lean function answers; its conditions stand in each theorem. Written by a program of this session. -/
namespace Go.Proofs.Ytdolplcbokioaaa.PB
open Go.RowKit Go.Proofs.YtdolplcbokioaaaW.PrintWords Go.Proofs.YtdolplcbokioaaaW.PrintLast Go.Proofs.YtdolplcbokioaaaW.PrintMore
attribute [local go_sem] max2_int min2_int max_two min_two max_three min_three max_four min_four   -- for this text's walks alone
set_option linter.unusedVariables false
set_option linter.unusedSimpArgs false

/-! ### laws_heldIntS: function 76 -/
def laws_heldIntS.l0 : Nat → List Int → Int → Int → Option (Int)
  | 0, _, _, _ => none
  | k + 1, x0, x1, x5 => if x5 < (x0.length : Int) then (if 0 ≤ x5 then (if (rd x0 x5) = x1 then (laws_heldIntS.l0 k x0 (wrap64 (x1 + 1)) (wrap64 (x5 + 1))) else (some (-1))) else (none)) else (some x1)
def laws_heldIntS.f (k : Nat) (l0 : List Int) (a1 : Int) : Option (Int) := laws_heldIntS.l0 k l0 a1 0
theorem laws_heldIntS.mono_l : ∀ k, (∀ y0 y1 y2, LeO (laws_heldIntS.l0 k y0 y1 y2) (laws_heldIntS.l0 (k + 1) y0 y1 y2))
  | 0 => fun _ _ _ r h => by simp [laws_heldIntS.l0] at h
  | k + 1 => by
    have ih0 := laws_heldIntS.mono_l k
    · intro y0 y1 y2
      unfold laws_heldIntS.l0
      repeat' first
      | (with_reducible exact ih0 _ _ _)
      | (with_reducible exact LeO.refl _)
      | (with_reducible exact LeO.none _)
      | (with_reducible refine LeO.ite ?_ ?_)
      | (with_reducible refine LeO.bind ?_ (fun _ => ?_))
      | exact ih0 _ _ _
      | exact LeO.none _
      | refine LeO.ite ?_ ?_
      | refine LeO.bind ?_ (fun _ => ?_)
theorem laws_heldIntS.mono : ∀ a0 a1 k, LeO (laws_heldIntS.f k a0 a1) (laws_heldIntS.f (k + 1) a0 a1) := by
  intro a0 a1 k
  have ih0 := laws_heldIntS.mono_l k
  unfold laws_heldIntS.f
  repeat' first
      | (with_reducible exact ih0 _ _ _)
      | (with_reducible exact LeO.refl _)
      | (with_reducible exact LeO.none _)
      | (with_reducible refine LeO.ite ?_ ?_)
      | (with_reducible refine LeO.bind ?_ (fun _ => ?_))
      | exact ih0 _ _ _
      | exact LeO.none _
      | refine LeO.ite ?_ ?_
      | refine LeO.bind ?_ (fun _ => ?_)
set_option maxHeartbeats 8000000 in
set_option maxRecDepth 100000 in
theorem laws_heldIntS.calls (k : Nat) (A0 : Option Addr) (c0 : Nat) (l0 : List Int) (a1 : Int) (r : Int) (w : World) (hr0 : Kd.C (Kd.int .i64) w A0 l0.length l0) (hc0 : l0.length ≤ c0) (h : laws_heldIntS.f k l0 a1 = some r) :
    Calls Try.prog 76 #[.slice A0 l0.length c0, .int .i64 a1] w fun e w' => e = .returned (.int .i64 r) ∧ Drawn0 w w' := by
  have HR0 := Aside0.mk hr0
  have HC0 := Aside0.mk hc0
  clear hr0 hc0
  have H : (laws_heldIntS.l0 k l0 a1 0) = some r := h
  clear h
  have H' := Aside0.mk H
  clear H
  go_enter Try.func76, Try.ntmps76
  go_wp2
  go_loopg [1, 5] k (fun kq v1 v5 w' => ∃ (x1_1 : Int) (x5_1 : Int), v1 = .int .i64 x1_1 ∧ v5 = .int .i64 x5_1 ∧ Aside0 (laws_heldIntS.l0 kq l0 x1_1 x5_1 = some r) ∧ Aside0 (kq ≤ k) ∧ Drawn0 w w')
  case atStart => exact ⟨(a1), (0), (by first | rfl | (simp; done) | (simp [*]; done)), (by first | rfl | (simp; done) | (simp [*]; done)), H', ⟨Nat.le_refl _⟩, by repeat (first | exact Drawn0.refl _ | apply Drawn0.step)⟩
  case round =>
    clear H'
    try clear p2
    obtain ⟨x1_1, x5_1, rfl, rfl, HA, HK1, ⟨m1, rfl⟩⟩ := hrel
    cases gk with
    | zero => exact absurd HA.out (by simp [laws_heldIntS.l0])
    | succ k1 =>
      have H := HA.out
      clear HA
      simp only [laws_heldIntS.l0] at H
      by_cases c3 : x5_1 < (l0.length : Int)
      · rw [if_pos c3] at H
        have c3b0 : decide (x5_1 < (l0.length : Int)) = true := decide_eq_true c3
        clear c3
        by_cases c4 : 0 ≤ x5_1
        · rw [if_pos c4] at H
          have c4b0 : decide (0 ≤ x5_1) = true := decide_eq_true c4
          clear c4
          by_cases c5 : (rd l0 x5_1) = x1_1
          · rw [if_pos c5] at H
            have c5b0 : ((rd l0 x5_1) == x1_1) = true := beq_iff_eq.mpr c5
            have c5b1 : ((rd l0 x5_1) != x1_1) = false := bne_eq_false_iff_eq.mpr c5
            clear c5
            have H' := Aside0.mk H
            clear H
            have p873 : 0 ≤ (x5_1 : Int) := of_decide_eq_true (by first | (with_reducible assumption) | assumption)
            have q873 : x5_1 < (l0.length : Int) := of_decide_eq_true (by first | (with_reducible assumption) | assumption)
            obtain ⟨ad873, e873, hx873_0⟩ := Kd.at_int HR0.out x5_1 p873 q873
            cases e873
            replace p873 := eq_true p873
            replace q873 := eq_true q873
            go_wp2
            go_roundg k1
            case measure => have := HK1.out; omega
            case rel => exact ⟨(wrap64 (x1_1 + 1)), (wrap64 (x5_1 + 1)), (by first | rfl | (simp; done) | (simp [*]; done)), (by first | rfl | (simp; done) | (simp [*]; done)), H', ⟨by have := HK1.out; omega⟩, by repeat (first | exact Drawn0.refl _ | apply Drawn0.step)⟩
          · rw [if_neg c5] at H
            have c5b0 : ((rd l0 x5_1) == x1_1) = false := beq_eq_false_iff_ne.mpr c5
            have c5b1 : ((rd l0 x5_1) != x1_1) = true := bne_iff_ne.mpr c5
            obtain rfl := Option.some.inj H
            have p873 : 0 ≤ (x5_1 : Int) := of_decide_eq_true (by first | (with_reducible assumption) | assumption)
            have q873 : x5_1 < (l0.length : Int) := of_decide_eq_true (by first | (with_reducible assumption) | assumption)
            obtain ⟨ad873, e873, hx873_0⟩ := Kd.at_int HR0.out x5_1 p873 q873
            cases e873
            replace p873 := eq_true p873
            replace q873 := eq_true q873
            go_wp2
            go_ret
            exact ⟨by first | rfl | (simp; done) | (simp [*]; done), by repeat (first | exact Drawn0.refl _ | apply Drawn0.step)⟩
        · rw [if_neg c4] at H
          exact absurd H (by simp)
      · rw [if_neg c3] at H
        have c3b0 : decide (x5_1 < (l0.length : Int)) = false := decide_eq_false c3
        clear c3
        obtain rfl := Option.some.inj H
        go_wp2
        go_ret
        exact ⟨by first | rfl | (simp; done) | (simp [*]; done), by repeat (first | exact Drawn0.refl _ | apply Drawn0.step)⟩

end Go.Proofs.Ytdolplcbokioaaa.PB

/- Marks: what a row's places are marked with is held there again, and the count goes on alike. -/
namespace Go.Proofs.Ytdolplcbokioaaa.Pu
set_option linter.unusedVariables false
set_option linter.unusedSimpArgs false
open Go.RowKit Go.Proofs.Ytdolplcbokioaaa.PB Go.Proofs.YtdolplcbokioaaaW.PrintWords

theorem getD_set_self {α : Type} {xs : List α} {i : Nat} {x z : α} (h : i < xs.length) : (xs.set i x).getD i z = x := by
  rw [List.getD_eq_getElem?_getD, List.getElem?_set_self h]; rfl
theorem getD_set_ne {α : Type} {xs : List α} {i j : Nat} {x z : α} (h : i ≠ j) : (xs.set i x).getD j z = xs.getD j z := by
  rw [List.getD_eq_getElem?_getD, List.getD_eq_getElem?_getD, List.getElem?_set_ne h]
/-- A row that is marked place by place, and held so. -/
theorem ev_mark {α : Type} (z : α) {L : Nat → List α → Int → Int → Option (Int × List α)} {Hd : Nat → List α → Int → Int → Option Int} (E : Nat → α → Int → Option (Int × α)) (G : Nat → α → Int → Option Int) (c : Int) (P : α → Prop)
    (hL : ∀ k (xs : List α) (a : Int) (i : Nat), i < xs.length → 0 ≤ a → a + c ≤ 4611686018427387904 → L (k + 1) xs a (i : Int) = (E k (xs.getD i z) a).bind fun b => L k (xs.set i b.2) b.1 (wrap64 ((i : Int) + 1)))
    (hL0 : ∀ k (xs : List α) (a : Int) (i : Nat), xs.length ≤ i → L (k + 1) xs a (i : Int) = some (a, xs))
    (hH : ∀ k (xs : List α) (a : Int) (i : Nat), i < xs.length → 0 ≤ a → a + c ≤ 4611686018427387904 → Hd (k + 1) xs a (i : Int) = (G k (xs.getD i z) a).bind fun t => if t < 0 then some (-1) else Hd k xs t (wrap64 ((i : Int) + 1)))
    (hH0 : ∀ k (xs : List α) (a : Int) (i : Nat), xs.length ≤ i → Hd (k + 1) xs a (i : Int) = some a)
    (hc : 0 ≤ c)
    (hE : ∀ x a, P x → 0 ≤ a → a + c ≤ 4611686018427387904 → ∃ a' x', Ev (fun k => E k x a) (a', x') ∧ Ev (fun k => G k x' a) a' ∧ a ≤ a' ∧ a' ≤ a + c) :
    ∀ (d i : Nat) (xs : List α) (a : Int), i + d = xs.length → xs.length ≤ 9223372036854775807 → (∀ j, i ≤ j → j < xs.length → P (xs.getD j z)) → 0 ≤ a → a + d * c ≤ 4611686018427387904 →
      ∃ a' xs', xs'.length = xs.length ∧ (∀ j, j < i → xs'.getD j z = xs.getD j z) ∧ Ev (fun k => L k xs a (i : Int)) (a', xs') ∧ Ev (fun k => Hd k xs' a (i : Int)) a' ∧ a ≤ a' ∧ a' ≤ a + d * c := by
  intro d
  induction d with
  | zero =>
    intro i xs a hi hn hP ha hM
    exact ⟨a, xs, rfl, fun _ _ => rfl, ev_some fun k => hL0 k xs a i (by omega), ev_some fun k => hH0 k xs a i (by omega), Int.le_refl _, by simp⟩
  | succ d ih =>
    intro i xs a hi hn hP ha hM
    have hdc : 0 ≤ (d : Int) * c := Int.mul_nonneg (by omega) hc
    have hds : ((d + 1 : Nat) : Int) * c = (d : Int) * c + c := by rw [Int.natCast_add, Int.add_mul]; simp
    rw [hds] at hM
    obtain ⟨a1, x1, hE1, hG1, h1, h2⟩ := hE (xs.getD i z) a (hP i (Nat.le_refl _) (by omega)) ha (by omega)
    have hlen : (xs.set i x1).length = xs.length := List.length_set
    obtain ⟨a', xs', hl', hb', hL', hH', h3, h4⟩ := ih (i + 1) (xs.set i x1) a1 (by rw [hlen]; omega) (by rw [hlen]; exact hn) (fun j hj hj2 => by
      rw [hlen] at hj2
      rw [getD_set_ne (by omega)]
      exact hP j (by omega) hj2) (by omega) (by omega)
    have hxi : xs'.getD i z = x1 := by rw [hb' i (by omega), getD_set_self (by omega)]
    refine ⟨a', xs', by rw [hl', hlen], fun j hj => by rw [hb' j (by omega), getD_set_ne (by omega)], ?_, ?_, by omega, by rw [hds]; omega⟩
    · refine Ev.step (fun k => hL k xs a i (by omega) ha (by omega)) (ev_bind hE1 ?_)
      simp only [wsucc (n := xs.length) (i := i) (by omega) hn]
      exact hL'
    · refine Ev.step (fun k => hH k xs' a i (by rw [hl', hlen]; omega) ha (by omega)) ?_
      rw [hxi]
      refine ev_bind hG1 ?_
      simp only [if_neg (show ¬ a1 < 0 by omega), wsucc (n := xs.length) (i := i) (by omega) hn]
      exact hH'

/-- A row that is marked place by place. -/
theorem ev_mark1 {α : Type} (z : α) {L : Nat → List α → Int → Int → Option (Int × List α)} (E : Nat → α → Int → Option (Int × α)) (c : Int)
    (hL : ∀ k (xs : List α) (a : Int) (i : Nat), i < xs.length → 0 ≤ a → a + c ≤ 4611686018427387904 → L (k + 1) xs a (i : Int) = (E k (xs.getD i z) a).bind fun b => L k (xs.set i b.2) b.1 (wrap64 ((i : Int) + 1)))
    (hL0 : ∀ k (xs : List α) (a : Int) (i : Nat), xs.length ≤ i → L (k + 1) xs a (i : Int) = some (a, xs)) (hc : 0 ≤ c)
    (hE : ∀ x a, 0 ≤ a → a + c ≤ 4611686018427387904 → ∃ a' x', Ev (fun k => E k x a) (a', x') ∧ a ≤ a' ∧ a' ≤ a + c) :
    ∀ (d i : Nat) (xs : List α) (a : Int), i + d = xs.length → xs.length ≤ 9223372036854775807 → 0 ≤ a → a + d * c ≤ 4611686018427387904 →
      ∃ a' xs', Ev (fun k => L k xs a (i : Int)) (a', xs') ∧ a ≤ a' ∧ a' ≤ a + d * c := by
  intro d
  induction d with
  | zero =>
    intro i xs a hi hn ha hM
    exact ⟨a, xs, ev_some fun k => hL0 k xs a i (by omega), Int.le_refl _, by simp⟩
  | succ d ih =>
    intro i xs a hi hn ha hM
    have hdc : 0 ≤ (d : Int) * c := Int.mul_nonneg (by omega) hc
    have hds : ((d + 1 : Nat) : Int) * c = (d : Int) * c + c := by rw [Int.natCast_add, Int.add_mul]; simp
    rw [hds] at hM
    obtain ⟨a1, x1, hE1, h1, h2⟩ := hE (xs.getD i z) a ha (by omega)
    have hlen : (xs.set i x1).length = xs.length := List.length_set
    obtain ⟨a', xs', hL', h3, h4⟩ := ih (i + 1) (xs.set i x1) a1 (by rw [hlen]; omega) (by rw [hlen]; exact hn) (by omega) (by omega)
    refine ⟨a', xs', ?_, by omega, by rw [hds]; omega⟩
    refine Ev.step (fun k => hL k xs a i (by omega) ha (by omega)) (ev_bind hE1 ?_)
    simp only [wsucc (n := xs.length) (i := i) (by omega) hn]
    exact hL'

/-- Whole numbers. -/
theorem mark_int (l : List Int) (a : Int) (hn : (l.length : Int) ≤ 1099511627776) (ha : 0 ≤ a) (hM : a + l.length ≤ 4611686018427387904) :
    ∃ a' l', l'.length = l.length ∧ Ev (fun k => laws_markIntS.f k l a) (a', l') ∧ Ev (fun k => laws_heldIntS.f k l' a) a' ∧ a ≤ a' ∧ a' ≤ a + l.length := by
  obtain ⟨a', l', h1, _, h2, h3, h4, h5⟩ := ev_mark (0 : Int) (L := fun k xs a i => laws_markIntS.l0 k xs a i) (Hd := fun k xs a i => laws_heldIntS.l0 k xs a i)
    (fun _ _ a => some (wrap64 (a + 1), a)) (fun _ x a => if x = a then some (wrap64 (a + 1)) else some (-1)) 1 (fun _ => True)
    (fun k xs a i hi _ _ => by
      simp only [laws_markIntS.l0]
      rw [if_pos (by omega), if_pos (by omega)]
      rfl)
    (fun k xs a i hi => by
      simp only [laws_markIntS.l0]
      rw [if_neg (by omega)])
    (fun k xs a i hi h0 h1 => by
      simp only [laws_heldIntS.l0]
      rw [if_pos (by omega), if_pos (by omega)]
      show (if xs.getD i 0 = a then _ else _) = _
      by_cases h : xs.getD i 0 = a
      · rw [if_pos h, if_pos h, w64 (by omega) (by omega)]
        simp only [Option.bind_some]
        rw [if_neg (by omega)]
      · rw [if_neg h, if_neg h]
        rfl)
    (fun k xs a i hi => by
      simp only [laws_heldIntS.l0]
      rw [if_neg (by omega)])
    (by omega)
    (fun x a _ h0 h1 => ⟨a + 1, a, ev_const (by rw [w64 (by omega) (by omega)]), ev_const (by rw [if_pos rfl, w64 (by omega) (by omega)]), by omega, by omega⟩)
    l.length 0 l a (by omega) (by omega) (fun _ _ _ => trivial) ha (by omega)
  exact ⟨a', l', h1, h2, h3, h4, by omega⟩
end Go.Proofs.Ytdolplcbokioaaa.Pu

/- A mark's text. -/
namespace Go.Proofs.Ytdolplcbokioaaa.Pu
set_option linter.unusedVariables false
set_option linter.unusedSimpArgs false
open Go.RowKit Go.Proofs.Ytdolplcbokioaaa.PB Go.Proofs.YtdolplcbokioaaaW.PrintWords

theorem strOne (n : Int) : (strOfNums [n]).size = 1 := by simp [strOfNums, ByteArray.size]
/-- A mark's text is there. -/
theorem markText_ev (n : Int) (h1 : n ≤ 4611686018427387904) : ∃ t, Ev (fun k => laws_markText.f k n) t := by
  by_cases h : n ≤ 0
  · exact ⟨⟨#[109, 48]⟩, by unfold laws_markText.f; simp only [if_pos h]; exact Ev.now _⟩
  · have main : ∀ (d : Nat) (x : Int) (s : ByteArray), 0 ≤ x → x ≤ d → x ≤ 4611686018427387904 → s.size + d ≤ 4611686018427387905 → ∃ t, Ev (fun k => laws_markText.l0 k x s) t := by
      intro d
      induction d using Nat.strongRecOn with
      | _ d ih =>
        intro x s hx hd hx2 hs
        by_cases hz : x > 0
        · have hq : Int.tdiv x 10 = x / 10 := Int.tdiv_eq_ediv_of_nonneg hx
          obtain ⟨t, ht⟩ := ih (d - 1) (by omega) (x / 10) ((strOfNums [(wrap64 (48 + (Int.tmod x 10))) % 256]) ++ s) (by omega) (by omega) (by omega) (by rw [ByteArray.size_append, strOne]; omega)
          refine ⟨t, Ev.step (fun k => ?_) ht⟩
          simp only [laws_markText.l0]
          rw [if_pos hz]
          simp only [Option.bind_some]
          rw [if_pos (by rw [strOne]; omega), hq, w64 (by omega) (by omega)]
        · exact ⟨_, ev_some fun k => by
            simp only [laws_markText.l0]
            rw [if_neg hz, if_pos (by omega)]⟩
    obtain ⟨t, ht⟩ := main n.toNat n ⟨#[]⟩ (by omega) (by omega) h1 (by show 0 + _ ≤ _; omega)
    exact ⟨t, by unfold laws_markText.f; simp only [if_neg h]; exact ht⟩
end Go.Proofs.Ytdolplcbokioaaa.Pu
