/- FnExactAllAt: functions of the translation as Lean functions with what their calls come to, plain lemmas on them, and, at the end, the row. Parts of one proof, merged by a program of this session; each part's own sentence stands at its head. -/
import Derived.Test.YtijbejiajaiciaaRows
import Derived.WalkKit
import Derived.ProofKit
import Derived.OpenShut
import Derived.ShutString
import Derived.ChangeOld
import Derived.Below
import Derived.SizedLaws
import Derived.Test.YtijbejiajaiciaaMFnExactAllAtb
/- Functions of the translation as plain Lean functions, and for each that its call comes to just what its Lean function answers; its conditions stand in each theorem. Written by a program of this session. -/
namespace Go.Proofs.Ytijbejiajaiciaa.PC
open Go.RowKit Go.Proofs.YtijbejiajaiciaaW.PrintWords Go.Proofs.YtijbejiajaiciaaW.PrintLast Go.Proofs.YtijbejiajaiciaaW.PrintMore
attribute [local go_sem] max2_int min2_int max_two min_two max_three min_three max_four min_four   -- for this text's walks alone
set_option linter.unusedVariables false
set_option linter.unusedSimpArgs false

/-! ### laws_heldArena: function 58 -/
def laws_heldArena.f (k : Nat) (l0_0 : List (S138)) (a1 : Int) : Option (Int) := (laws_heldKnotS.f k l0_0 a1).bind fun t139 => (if t139 < 0 then (some (-1)) else (some t139))
theorem laws_heldArena.mono : ∀ a0 a1 k, LeO (laws_heldArena.f k a0 a1) (laws_heldArena.f (k + 1) a0 a1) := by
  intro a0 a1 k
  unfold laws_heldArena.f
  repeat' first
      | (with_reducible exact laws_heldKnotS.mono _ _ _)
      | (with_reducible exact LeO.refl _)
      | (with_reducible exact LeO.none _)
      | (with_reducible refine LeO.ite ?_ ?_)
      | (with_reducible refine LeO.bind ?_ (fun _ => ?_))
      | exact laws_heldKnotS.mono _ _ _
      | exact LeO.none _
      | refine LeO.ite ?_ ?_
      | refine LeO.bind ?_ (fun _ => ?_)
set_option maxHeartbeats 8000000 in
set_option maxRecDepth 100000 in
theorem laws_heldArena.calls (k : Nat) (A0_0 : Option Addr) (c0_0 : Nat) (l0_0 : List (S138)) (a1 : Int) (r : Int) (w : World) (hr0_0 : Kd.C k138 w A0_0 l0_0.length l0_0) (hc0_0 : l0_0.length ≤ c0_0) (h : laws_heldArena.f k l0_0 a1 = some r) :
    Calls Try.prog 58 #[.agg #[.slice A0_0 l0_0.length c0_0], .int .i64 a1] w fun e w' => e = .returned (.int .i64 r) ∧ Below w.heap.size w w' := by
  have hu25 := Try.underlying25
  have HR0_0 := Aside0.mk hr0_0
  have HC0_0 := Aside0.mk hc0_0
  clear hr0_0 hc0_0
  have HB := Aside0.mk (Below.refl w.heap.size w)
  have H : ((laws_heldKnotS.f k l0_0 a1).bind fun t139 => (if t139 < 0 then (some (-1)) else (some t139))) = some r := h
  clear h
  replace H := Option.bind_eq_some_iff.mp H
  obtain ⟨t139, A30, H⟩ := H
  replace H : (if t139 < 0 then (some (-1)) else (some t139)) = some r := H
  have A3 := Aside0.mk A30
  clear A30
  by_cases c4 : t139 < 0
  · rw [if_pos c4] at H
    have c4b0 : decide (t139 < 0) = true := decide_eq_true c4
    clear c4
    obtain rfl := Option.some.inj H
    go_enter Try.func58, Try.ntmps58
    go_wp2_with (first | ((with_reducible refine gate_dst (N := 2) rfl ?_); refine box_event ?hg (N := 2) ?hd (cs := #[.slice A0_0 l0_0.length c0_0]) (t := 25) ?hr ?_; (case hd => rfl); (case hg => rfl); (case hr => first | (go_simp; done) | (go_simp; rfl)); intro gb138 hg w5 hbox hb; have n0_ := Aside0.mk (below_step (by repeat (first | (with_reducible first | exact HB.out | apply below_alloc | apply pw_below_drewN | apply below_drew1) | exact HB.out)) hb); have n1_ := Aside0.mk (hbox); have n2_ := Aside0.mk ((by rw [hg]; exact (below_size (by repeat (first | (with_reducible first | exact HB.out | apply below_alloc | apply pw_below_drewN | apply below_drew1) | exact HB.out))) : w.heap.size ≤ gb138)); have n3_ := Aside0.mk ((by rw [hg]; exact (below_size (by repeat (first | (with_reducible first | exact HB.out | apply below_alloc | apply pw_below_drewN | apply below_drew1) | exact HB.out))) : w.heap.size ≤ gb138)); clear HB; have HB := n0_; have BK138 := n1_; have GW138 := n2_; have GE138 := n3_; clear n0_ n1_ n2_ n3_; clear hb hbox hg; have hcz6_0 : w5.cell? ⟨gb138, 0, none⟩ = some (.slice A0_0 l0_0.length c0_0) := (blk_cell BK138.out 0).trans rfl; have hfz6_0 := blk_frozen BK138.out 0) | ((with_reducible refine gate_callee (f := 87) rfl ?_); refine goesL_ (some 8) rfl rfl Try.func87 (by kernel_rfl) rfl #[.slice A0_0 l0_0.length c0_0, .int .i64 a1] rfl (by (try simp only [List.map_toArray, List.map_cons, List.map_nil]); first | done | rfl | (simp only [List.length_drop, List.length_take]; rfl)) ?_; (with_reducible refine (laws_heldKnotS.calls k _ _ l0_0 a1 t139 _ ?side1 ?side2 A3.out).mono ?_); (case side1 => repeat (first | exact (Kd.C_below HR0_0.out HB.out) | (with_reducible refine Kd.C_alloc ?_ _) | (with_reducible refine Kd.C_drewN ?_ _) | (with_reducible refine Kd.C_drew ?_))); (case side2 => exact HC0_0.out); rintro e w' ⟨rfl, ⟨nd, rfl⟩⟩; refine ⟨_, rfl, ?_⟩))
    go_ret
    exact ⟨by first | rfl | (simp [errW_none, errW_some] <;> rfl) | (simp [*, errW_none, errW_some] <;> rfl), by repeat (first | (with_reducible first | exact HB.out | apply below_alloc | apply pw_below_drewN | apply below_drew1 | refine below_set ?_ GE138.out) | exact HB.out)⟩
  · rw [if_neg c4] at H
    have c4b0 : decide (t139 < 0) = false := decide_eq_false c4
    clear c4
    obtain rfl := Option.some.inj H
    go_enter Try.func58, Try.ntmps58
    go_wp2_with (first | ((with_reducible refine gate_dst (N := 2) rfl ?_); refine box_event ?hg (N := 2) ?hd (cs := #[.slice A0_0 l0_0.length c0_0]) (t := 25) ?hr ?_; (case hd => rfl); (case hg => rfl); (case hr => first | (go_simp; done) | (go_simp; rfl)); intro gb138 hg w7 hbox hb; have n0_ := Aside0.mk (below_step (by repeat (first | (with_reducible first | exact HB.out | apply below_alloc | apply pw_below_drewN | apply below_drew1) | exact HB.out)) hb); have n1_ := Aside0.mk (hbox); have n2_ := Aside0.mk ((by rw [hg]; exact (below_size (by repeat (first | (with_reducible first | exact HB.out | apply below_alloc | apply pw_below_drewN | apply below_drew1) | exact HB.out))) : w.heap.size ≤ gb138)); have n3_ := Aside0.mk ((by rw [hg]; exact (below_size (by repeat (first | (with_reducible first | exact HB.out | apply below_alloc | apply pw_below_drewN | apply below_drew1) | exact HB.out))) : w.heap.size ≤ gb138)); clear HB; have HB := n0_; have BK138 := n1_; have GW138 := n2_; have GE138 := n3_; clear n0_ n1_ n2_ n3_; clear hb hbox hg; have hcz8_0 : w7.cell? ⟨gb138, 0, none⟩ = some (.slice A0_0 l0_0.length c0_0) := (blk_cell BK138.out 0).trans rfl; have hfz8_0 := blk_frozen BK138.out 0) | ((with_reducible refine gate_callee (f := 87) rfl ?_); refine goesL_ (some 8) rfl rfl Try.func87 (by kernel_rfl) rfl #[.slice A0_0 l0_0.length c0_0, .int .i64 a1] rfl (by (try simp only [List.map_toArray, List.map_cons, List.map_nil]); first | done | rfl | (simp only [List.length_drop, List.length_take]; rfl)) ?_; (with_reducible refine (laws_heldKnotS.calls k _ _ l0_0 a1 t139 _ ?side1 ?side2 A3.out).mono ?_); (case side1 => repeat (first | exact (Kd.C_below HR0_0.out HB.out) | (with_reducible refine Kd.C_alloc ?_ _) | (with_reducible refine Kd.C_drewN ?_ _) | (with_reducible refine Kd.C_drew ?_))); (case side2 => exact HC0_0.out); rintro e w' ⟨rfl, ⟨nd, rfl⟩⟩; refine ⟨_, rfl, ?_⟩))
    go_ret
    exact ⟨by first | rfl | (simp [errW_none, errW_some] <;> rfl) | (simp [*, errW_none, errW_some] <;> rfl), by repeat (first | (with_reducible first | exact HB.out | apply below_alloc | apply pw_below_drewN | apply below_drew1 | refine below_set ?_ GE138.out) | exact HB.out)⟩

end Go.Proofs.Ytijbejiajaiciaa.PC

/- Marks of an arena. -/
namespace Go.Proofs.Ytijbejiajaiciaa.Pu
set_option linter.unusedVariables false
set_option linter.unusedSimpArgs false
open Go.RowKit Go.Proofs.Ytijbejiajaiciaa.PC Go.Proofs.YtijbejiajaiciaaW.PrintWords

theorem mark_knots (l : List S138) (a : Int) (hn : l.length ≤ 1048576) (hk : ∀ x ∈ l, x.f1.length ≤ 1048576) (ha : 0 ≤ a) (hM : a ≤ 1099511627776) :
    ∃ a' l', l'.length = l.length ∧ Ev (fun k => laws_markKnotS.f k l a) (a', l') ∧ Ev (fun k => laws_heldKnotS.f k l' a) a' ∧ a ≤ a' ∧ a' ≤ a + l.length * 1048577 := by
  obtain ⟨a', l', h1, _, h2, h3, h4, h5⟩ := ev_mark z138 (L := fun k xs a i => laws_markKnotS.l0 k xs a i) (Hd := fun k xs a i => laws_heldKnotS.l0 k xs a i)
    (fun k x a => (laws_markIntS.f k x.f1 (wrap64 (a + 1))).bind fun b => some (b.1, (⟨Int.tmod a 3 == 0, b.2⟩ : S138))) (fun k x a => if (x.f0 != (Int.tmod a 3 == 0)) = true then some (-1) else laws_heldIntS.f k x.f1 (wrap64 (a + 1))) 1048577 (fun x => x.f1.length ≤ 1048576)
    (fun k xs a i hi _ _ => by
      have e1 : rd_T138 (xs.set i (⟨Int.tmod a 3 == 0, (rd_T138 xs (i : Int)).f1⟩ : S138)) (i : Int) = ⟨Int.tmod a 3 == 0, (rd_T138 xs (i : Int)).f1⟩ := getD_set_self hi
      simp only [laws_markKnotS.l0]
      rw [if_pos (by omega), if_pos (by omega)]
      simp only [Option.bind_some, Int.toNat_natCast, e1, List.set_set, Option.bind_assoc]
      rfl)
    (fun k xs a i hi => by
      simp only [laws_markKnotS.l0]
      rw [if_neg (by omega)])
    (fun k xs a i hi h0 h1 => by
      simp only [laws_heldKnotS.l0]
      rw [if_pos (by omega), if_pos (by omega)]
      show (if ((xs.getD i z138).f0 != (Int.tmod a 3 == 0)) = true then some (-1) else (laws_heldIntS.f k (xs.getD i z138).f1 (wrap64 (a + 1))).bind _) = _
      by_cases h : ((xs.getD i z138).f0 != (Int.tmod a 3 == 0)) = true
      · simp only [if_pos h]; rfl
      · simp only [if_neg h])
    (fun k xs a i hi => by
      simp only [laws_heldKnotS.l0]
      rw [if_neg (by omega)])
    (by omega)
    (fun x a hx h0 h1 => by
      obtain ⟨a1, l1, g1, g2, g3, g4, g5⟩ := mark_int x.f1 (a + 1) (by omega) (by omega) (by omega)
      refine ⟨a1, ⟨Int.tmod a 3 == 0, l1⟩, ?_, ?_, by omega, by omega⟩
      · simp only [w64 (x := a + 1) (by omega) (by omega)]
        exact ev_bind g2 (Ev.now _)
      · simp only [w64 (x := a + 1) (by omega) (by omega), bne_self_eq_false]
        exact g3)
    l.length 0 l a (by omega) (by omega) (fun j _ hj => hk _ (by rw [List.getD_eq_getElem?_getD, List.getElem?_eq_getElem hj]; exact List.getElem_mem hj)) ha (by omega)
  exact ⟨a', l', h1, h2, h3, h4, h5⟩
theorem mark_arena (l : List S138) (a : Int) (hn : l.length ≤ 1048576) (hk : ∀ x ∈ l, x.f1.length ≤ 1048576) (ha : 0 ≤ a) (hM : a ≤ 1099511627776) :
    ∃ a' l', l'.length = l.length ∧ Ev (fun k => laws_markArena.f k l a) (a', l') ∧ Ev (fun k => laws_heldArena.f k l' a) a' ∧ a ≤ a' ∧ a' ≤ a + l.length * 1048577 := by
  obtain ⟨a', l', h1, h2, h3, h4, h5⟩ := mark_knots l a hn hk ha hM
  refine ⟨a', l', h1, ?_, ?_, h4, h5⟩
  · unfold laws_markArena.f; exact ev_bind h2 (Ev.now _)
  · unfold laws_heldArena.f; exact ev_bind h3 (by simp only [if_neg (show ¬ a' < 0 by omega)]; exact Ev.now _)
end Go.Proofs.Ytijbejiajaiciaa.Pu

/- FnExactAllAt: the program's and the reference's numbers of a tree's sectors are one, and the program's are its own. -/
namespace Go.Proofs.Ytijbejiajaiciaa.Pure
set_option linter.unusedVariables false
set_option linter.unusedSimpArgs false
open Go.RowKit Go.Proofs.Ytijbejiajaiciaa.PC Go.Proofs.YtijbejiajaiciaaW.PrintWords Go.Proofs.Ytijbejiajaiciaa.Pu

theorem FnExactAllAt : ∀ (l0_0 : List S134) (a1 : Int), (l0_0.length ≤ maxLen ∧ ∀ x_l0_0 ∈ l0_0, (True ∧ (x_l0_0.f1.length ≤ maxLen ∧ ∀ x_x_l0_0f1 ∈ x_l0_0.f1, (Lit.int .i64 x_x_l0_0f1).wf = true))) → (Lit.int .i64 a1).wf = true → ∃ k, laws_FnExactAllAt.f k l0_0 a1 = some true := by
  intro l a1 ⟨hl, hx⟩ _
  refine Ev.rounds (g := fun k => laws_FnExactAllAt.f k l a1) ?_
  unfold maxLen at hl
  obtain ⟨r, hr, hr1, hq⟩ := szArena_ev l 1048576 (by omega) (by omega) (by omega) (fun x h => by have := (hx x h).2.1; unfold maxLen at this; omega)
  unfold laws_FnExactAllAt.f
  refine ev_bind hr ?_
  by_cases h : r < 0
  · simp only [if_pos h]; exact Ev.now _
  · simp only [if_neg h]
    obtain ⟨h1, h2⟩ := hq (by omega)
    have hlen : (toA l).length = l.length := by unfold toA; exact List.length_map _
    have hmem : ∀ x ∈ toA l, x.f1.length ≤ 1048576 := fun x h => by
      unfold toA at h
      obtain ⟨y, hy, rfl⟩ := List.mem_map.1 h
      have := h2 y hy
      show y.f1.length ≤ _
      omega
    have hto := toArena_ev l (by omega) (fun x h => by have := h2 x h; omega)
    have eqq := eqArena_ev (toA l) (by omega) (fun x h => by have := hmem x h; omega)
    have hs := sAllAt_ev (toA l) a1 (by omega)
    have hi := iAllAt_ev (toA l) a1 (by omega)
    have h16 := allB_len (toA l) a1
    have eqi := eqIntS_ev (allB (toA l) a1) (by omega)
    obtain ⟨ka, A', _, hmk, _, hk0, _⟩ := mark_arena (toA l) 1 (by omega) hmem (by omega) (by omega)
    obtain ⟨m, g', _, hm1, hm2, hm0, _⟩ := mark_int (allB (toA l) a1) 1 (by omega) (by omega) (by omega)
    refine ev_bind hto (ev_bind hs (ev_bind hto (ev_bind hi (ev_bind eqi ?_))))
    simp only [if_true]
    refine ev_bind hto (ev_bind eqq ?_)
    simp only [if_true]
    refine ev_bind hmk (ev_bind eqi ?_)
    simp only [if_true, if_neg (show ¬ ka < 0 by omega)]
    refine ev_bind hm1 (ev_bind hm2 ?_)
    simp only [if_true, if_neg (show ¬ m < 0 by omega)]
    refine ev_bind hto (ev_bind hi (ev_bind eqi ?_))
    simp only [if_true]
    refine ev_bind hm2 ?_
    simp only [if_true, if_neg (show ¬ m < 0 by omega)]
    exact Ev.now _
end Go.Proofs.Ytijbejiajaiciaa.Pure

/- FnExactAllAt: whatever the input, the law returns true, and its arguments read as they did. The row, out of the law's own walk and the pure statement. -/
namespace Go.Proofs.Ytijbejiajaiciaa.fnExactAllAt
open Go.ChangeShapes Go.WideShapes Go.ChangeAt Go.RowKit Go.Proofs.Ytijbejiajaiciaa.Open Go.Proofs.YtijbejiajaiciaaW.PrintWords Go.Proofs.Ytijbejiajaiciaa.PC
open Go.ChangeMaps (open_string shut_string)
theorem own : ownKnob Try.prog.godebug = none := by kernel_rfl
theorem laidOut : laidOutB Try.prog = true := by kernel_rfl
set_option maxRecDepth 100000 in
theorem o134 : Opn Try.prog 134 k134 (fun x => (True ∧ (x.f1.length ≤ maxLen ∧ ∀ x_xf1 ∈ x.f1, (Lit.int .i64 x_xf1).wf = true))) := opn_struct (d := (Kd.pair Kd.bool (Kd.slice 3 (Kd.int .i64)))) (wf := fun (y : Bool × (List Int)) => (True ∧ (y.2.length ≤ maxLen ∧ ∀ x_y2 ∈ y.2, (Lit.int .i64 x_y2).wf = true))) (fun x : S134 => (x.f0, x.f1)) (fun y => (⟨y.1, y.2⟩ : S134)) (fun _ => rfl) Try.underlying134 (by kernel_rfl) (opnF_cons rfl (by kernel_rfl) (opn_bool Try.underlying4) (opnF_one rfl (by kernel_rfl) (opn_slice Try.underlying44 (by kernel_rfl) (opn_int Try.underlying3))))
set_option maxRecDepth 100000 in
theorem p42 : Opn Try.prog 42 (Kd.slice 134 k134) (fun (y : (List S134)) => (y.length ≤ maxLen ∧ ∀ x_y ∈ y, (True ∧ (x_y.f1.length ≤ maxLen ∧ ∀ x_x_yf1 ∈ x_y.f1, (Lit.int .i64 x_x_yf1).wf = true)))) := opn_tuple Try.underlying42 (by kernel_rfl) (opnF_one rfl (by kernel_rfl) (opn_slice Try.underlying40 (by kernel_rfl) o134))
set_option maxRecDepth 100000 in
set_option maxHeartbeats 4000000 in
theorem lifted (os : Os) (started : os.Started) (H : Type) (enc : TypeId × Value → H) :
    ReturnsInHanded {} Try.checked os 5 .any (Rows.fnExactAllAtSpec.pre6 enc Try.prog Try.f5 Rows.fnExactAllAtRow.domain false) (Rows.fnExactAllAtSpec.post enc Try.prog Try.f5 false true false false) := by
  refine returnsInHanded_of_change_sized (C := Try.checked) own started (by kernel_rfl) Try.func5
    (ChangeSpec.witness6 (enc := enc) (C := Try.checked) false ⟨#[], #[.agg #[.slice none 0 0], .int .i64 0], []⟩ 8 (by kernel_rfl) (by kernel_rfl) (by kernel_rfl) (by kernel_rfl)) ?_
  intro W base args ds gs before hval0 hW hcnd hsz0 _
  have hval : ∀ (j : Nat) t v, Try.f5.params[j]? = some t → args[j]? = some v → Value.okWide Try.prog W .any base t v := hval0
  have hW' := hW
  obtain ⟨p, q, hA0, hV, rfl, hfz, hnd⟩ := hW
  have hA : DataW.TrodAll enc Try.prog W 0 (fun _ => true) true Try.f5.params.toList args.toList ds p := hA0
  rw [Try.params5] at hA hval
  obtain ⟨v0, vs0, d0, ds0, p0, q0, hargs, rfl, rfl, h0, r0⟩ := trodAll_cons hA
  obtain ⟨v1, vs1, d1, ds1, p1, q1, rfl, rfl, rfl, h1, r1⟩ := trodAll_cons r0
  obtain ⟨rfl, rfl, rfl⟩ := trodAll_nil r1
  obtain rfl : args = #[v0, v1] := by cases args; simp_all
  obtain ⟨rfl, rfl⟩ := trodVars_none hV
  have k0 := h0
  have lt0 : ∀ x ∈ p0, x.block < W.heap.size := by obtain ⟨m, hm⟩ := k0; exact DataW.trod_lt m _ _ _ hm
  obtain ⟨fu0, hf0⟩ := h0
  obtain ⟨y0, K0, Y0⟩ := p42 H enc W 0 (fun _ => true) true fu0 _ _ hf0
  obtain ⟨cs0, rfl, sz0⟩ := okWide_struct Try.underlying42 (hval 0 42 v0 rfl rfl)
  obtain ⟨Ac0, Cc0, Ec0, Lc0, Gc0⟩ := K0
  have E0 : cs0 = #[.slice Ac0 y0.length Cc0] := by
    apply Array.toList_inj.1
    have z : cs0.toList = _ := Ec0
    exact z
  subst E0
  have k1 := h1
  have lt1 : ∀ x ∈ p1, x.block < W.heap.size := by obtain ⟨m, hm⟩ := k1; exact DataW.trod_lt m _ _ _ hm
  obtain ⟨fu1, hf1⟩ := h1
  obtain ⟨y1, K1, Y1⟩ := (opn_int Try.underlying3) H enc W 0 (fun _ => true) true fu1 _ _ hf1
  have Ec1 := K1
  obtain ⟨a1, rfl, _⟩ := open_int Try.underlying3 (hval 1 3 v1 rfl rfl) k1
  obtain rfl : y1 = a1 := by
    have z : [Value.int .i64 a1] = [Value.int .i64 y1] := Ec1
    have z2 := List.head_eq_of_cons_eq z
    injection z2 with z3 z4 <;> first | exact z4.symm | exact z3.symm
  obtain ⟨k, hp⟩ := Pure.FnExactAllAt y0 y1 Y0 Y1
  clear hA0 hval0 hsz0
  refine (laws_FnExactAllAt.calls k Ac0 Cc0 y0 y1 true ⟨rfl⟩ W Gc0 Lc0 hp).mono fun e W' ⟨he, bel0⟩ => ?_
  have bel : Below W.heap.size W W' := bel0
  subst he
  exact ⟨_, rfl, _, _, _, [], _, [], hW', trodAll_mk1 (shut_bool Try.underlying4 _), (trodAll_cons_mk (Below.trod laidOut (by kernel_rfl) (of_decide_eq_true (by kernel_rfl)) k0 bel lt0) (trodAll_cons_mk (Below.trod laidOut (by kernel_rfl) (of_decide_eq_true (by kernel_rfl)) k1 bel lt1) trodAll_mk0)), rfl, bel.frame _, fun h => by cases h⟩
theorem over : Rows.fnExactAllAtRow.holds Try.pinned (OpenSpec.ofChange Rows.fnExactAllAtSpec) :=
  OpenClaim.holds_of_wide 5 Try.f5 rfl rfl rfl rfl rfl rfl rfl ⟨rfl, rfl, rfl, rfl, rfl⟩ rfl rfl rfl rfl rfl (by kernel_rfl) Try.func5 (by kernel_rfl)
    (of_decide_eq_true (by kernel_rfl)) (by unfold Func.isWrapper; first | (rw [if_pos (by decide +kernel)]; kernel_rfl) | (rw [if_neg (by decide +kernel)]; exact ⟨rfl, rfl⟩))
    (fun os started H enc _ => lifted os started H enc)
theorem proved : Rows.FnExactAllAtSaid := over
#print axioms proved
end Go.Proofs.Ytijbejiajaiciaa.fnExactAllAt
namespace Go.Proofs.Ytijbejiajaiciaa
/-- The row, under a short name, for the claim. -/
theorem fnExactAllAt_holds : Rows.FnExactAllAtSaid := fnExactAllAt.proved
end Go.Proofs.Ytijbejiajaiciaa
