/- FnExactTorment: functions of the translation as Lean functions with what their calls come to, plain lemmas on them, and, at the end, the row. Parts of one proof, merged by a program of this session; each part's own sentence stands at its head. -/
import Derived.Test.YtklkhnomnanpoaaRows
import Derived.WalkKit
import Derived.ProofKit
import Derived.OpenShut
import Derived.ShutString
import Derived.ChangeOld
import Derived.Below
import Derived.SizedLaws
import Derived.Test.YtklkhnomnanpoaaMFnExactTormentd
set_option linter.unusedSimpArgs false
set_option linter.unusedVariables false
/- Marks: what a row's places are marked with is held there again, and the count goes on alike. -/
namespace Go.Proofs.Ytklkhnomnanpoaa.Pu
open Go.RowKit Go.Proofs.Ytklkhnomnanpoaa.PK Go.Proofs.YtklkhnomnanpoaaW.PrintWords
theorem getD_set_self {α : Type} {xs : List α} {i : Nat} {x z : α} (h : i < xs.length) : (xs.set i x).getD i z = x := by
  rw [List.getD_eq_getElem?_getD, List.getElem?_set_self h]; rfl
theorem getD_set_ne {α : Type} {xs : List α} {i j : Nat} {x z : α} (h : i ≠ j) : (xs.set i x).getD j z = xs.getD j z := by
  rw [List.getD_eq_getElem?_getD, List.getD_eq_getElem?_getD, List.getElem?_set_ne h]
/-- A row that is marked place by place, and held so. -/
theorem ev_mark {α : Type} (z : α) {L : Nat → List α → Int → Int → Option (Int × List α)} {Hd : Nat → List α → Int → Int → Option Int} (E : Nat → α → Int → Option (Int × α)) (G : Nat → α → Int → Option Int) (c : Int) (P : α → Prop)
    (hL : ∀ k (xs : List α) (a : Int) (i : Nat), i < xs.length → 0 ≤ a → a + c ≤ 4611686018427387904 → L (k + 1) xs a (i : Int) = (E k (xs.getD i z) a).bind fun b => L k (xs.set i b.2) b.1 (wrap64 ((i : Int) + 1)))
    (hL0 : ∀ k (xs : List α) (a : Int) (i : Nat), xs.length ≤ i → L (k + 1) xs a (i : Int) = some (a, xs))
    (hH : ∀ k (xs : List α) (a : Int) (i : Nat), i < xs.length → 0 ≤ a → a + c ≤ 4611686018427387904 → Hd (k + 1) xs a (i : Int) = (G k (xs.getD i z) a).bind fun t => if t < 0 then some (-1) else Hd k xs t (wrap64 ((i : Int) + 1)))
    (hH0 : ∀ k (xs : List α) (a : Int) (i : Nat), xs.length ≤ i → Hd (k + 1) xs a (i : Int) = some a)
    (hc : 0 ≤ c)
    (hE : ∀ x a, P x → 0 ≤ a → a + c ≤ 4611686018427387904 → ∃ a' x', Ev (fun k => E k x a) (a', x') ∧ Ev (fun k => G k x' a) a' ∧ a ≤ a' ∧ a' ≤ a + c) :
    ∀ (d i : Nat) (xs : List α) (a : Int), i + d = xs.length → xs.length ≤ 9223372036854775807 → (∀ j, i ≤ j → j < xs.length → P (xs.getD j z)) → 0 ≤ a → a + d * c ≤ 4611686018427387904 →
      ∃ a' xs', xs'.length = xs.length ∧ (∀ j, j < i → xs'.getD j z = xs.getD j z) ∧ Ev (fun k => L k xs a (i : Int)) (a', xs') ∧ Ev (fun k => Hd k xs' a (i : Int)) a' ∧ a ≤ a' ∧ a' ≤ a + d * c := by
  intro d
  induction d with
  | zero =>
    intro i xs a hi hn hP ha hM
    exact ⟨a, xs, rfl, fun _ _ => rfl, ev_some fun k => hL0 k xs a i (by omega), ev_some fun k => hH0 k xs a i (by omega), Int.le_refl _, by simp⟩
  | succ d ih =>
    intro i xs a hi hn hP ha hM
    have hdc : 0 ≤ (d : Int) * c := Int.mul_nonneg (by omega) hc
    have hds : ((d + 1 : Nat) : Int) * c = (d : Int) * c + c := by rw [Int.natCast_add, Int.add_mul]; simp
    rw [hds] at hM
    obtain ⟨a1, x1, hE1, hG1, h1, h2⟩ := hE (xs.getD i z) a (hP i (Nat.le_refl _) (by omega)) ha (by omega)
    have hlen : (xs.set i x1).length = xs.length := List.length_set
    obtain ⟨a', xs', hl', hb', hL', hH', h3, h4⟩ := ih (i + 1) (xs.set i x1) a1 (by rw [hlen]; omega) (by rw [hlen]; exact hn) (fun j hj hj2 => by
      rw [hlen] at hj2
      rw [getD_set_ne (by omega)]
      exact hP j (by omega) hj2) (by omega) (by omega)
    have hxi : xs'.getD i z = x1 := by rw [hb' i (by omega), getD_set_self (by omega)]
    refine ⟨a', xs', by rw [hl', hlen], fun j hj => by rw [hb' j (by omega), getD_set_ne (by omega)], ?_, ?_, by omega, by rw [hds]; omega⟩
    · refine Ev.step (fun k => hL k xs a i (by omega) ha (by omega)) (ev_bind hE1 ?_)
      simp only [wsucc (n := xs.length) (i := i) (by omega) hn]
      exact hL'
    · refine Ev.step (fun k => hH k xs' a i (by rw [hl', hlen]; omega) ha (by omega)) ?_
      rw [hxi]
      refine ev_bind hG1 ?_
      simp only [if_neg (show ¬ a1 < 0 by omega), wsucc (n := xs.length) (i := i) (by omega) hn]
      exact hH'

/-- A row that is marked place by place. -/
theorem ev_mark1 {α : Type} (z : α) {L : Nat → List α → Int → Int → Option (Int × List α)} (E : Nat → α → Int → Option (Int × α)) (c : Int)
    (hL : ∀ k (xs : List α) (a : Int) (i : Nat), i < xs.length → 0 ≤ a → a + c ≤ 4611686018427387904 → L (k + 1) xs a (i : Int) = (E k (xs.getD i z) a).bind fun b => L k (xs.set i b.2) b.1 (wrap64 ((i : Int) + 1)))
    (hL0 : ∀ k (xs : List α) (a : Int) (i : Nat), xs.length ≤ i → L (k + 1) xs a (i : Int) = some (a, xs)) (hc : 0 ≤ c)
    (hE : ∀ x a, 0 ≤ a → a + c ≤ 4611686018427387904 → ∃ a' x', Ev (fun k => E k x a) (a', x') ∧ a ≤ a' ∧ a' ≤ a + c) :
    ∀ (d i : Nat) (xs : List α) (a : Int), i + d = xs.length → xs.length ≤ 9223372036854775807 → 0 ≤ a → a + d * c ≤ 4611686018427387904 →
      ∃ a' xs', Ev (fun k => L k xs a (i : Int)) (a', xs') ∧ a ≤ a' ∧ a' ≤ a + d * c := by
  intro d
  induction d with
  | zero =>
    intro i xs a hi hn ha hM
    exact ⟨a, xs, ev_some fun k => hL0 k xs a i (by omega), Int.le_refl _, by simp⟩
  | succ d ih =>
    intro i xs a hi hn ha hM
    have hdc : 0 ≤ (d : Int) * c := Int.mul_nonneg (by omega) hc
    have hds : ((d + 1 : Nat) : Int) * c = (d : Int) * c + c := by rw [Int.natCast_add, Int.add_mul]; simp
    rw [hds] at hM
    obtain ⟨a1, x1, hE1, h1, h2⟩ := hE (xs.getD i z) a ha (by omega)
    have hlen : (xs.set i x1).length = xs.length := List.length_set
    obtain ⟨a', xs', hL', h3, h4⟩ := ih (i + 1) (xs.set i x1) a1 (by rw [hlen]; omega) (by rw [hlen]; exact hn) (by omega) (by omega)
    refine ⟨a', xs', ?_, by omega, by rw [hds]; omega⟩
    refine Ev.step (fun k => hL k xs a i (by omega) ha (by omega)) (ev_bind hE1 ?_)
    simp only [wsucc (n := xs.length) (i := i) (by omega) hn]
    exact hL'

end Go.Proofs.Ytklkhnomnanpoaa.Pu

/- Steps on a flash: a leaf programmed, a block wiped; the program's and the reference's DoStep and DoSteps do them. -/
namespace Go.Proofs.Ytklkhnomnanpoaa.Pu
open Go.RowKit Go.Proofs.Ytklkhnomnanpoaa.PK Go.Proofs.YtklkhnomnanpoaaW.PrintWords
theorem dropS {α : Type} {l : List α} {i : Nat} (z : α) (h : i < l.length) : l.drop i = l.getD i z :: l.drop (i + 1) := by
  rw [List.drop_eq_getElem_cons h, List.getD_eq_getElem?_getD, List.getElem?_eq_getElem h]; rfl
theorem iCopyF_ev (f : List S83) (hn : f.length ≤ 1048576) (hk : ∀ x ∈ f, x.f2.length ≤ 1048576) : Ev (fun k => impl_copyFlash.f k f) f := by
  have main : ∀ (d i : Nat) (acc : List S83), i + d = f.length → acc.length = i → Ev (fun k => impl_copyFlash.l0 k f (f.length : Int) (i : Int) acc) (acc ++ f.drop i) := by
    intro d
    induction d with
    | zero => intro i acc hi hl; exact ev_some fun k => by simp only [impl_copyFlash.l0]; rw [if_neg (by omega), List.drop_eq_nil_of_le (by omega), List.append_nil]
    | succ d ih =>
      intro i acc hi hl
      have hm := hk _ (getD_mem' (z := z83) (show i < f.length by omega))
      have h := ih (i + 1) (acc ++ [f.getD i z83]) (by omega) (by rw [List.length_append, hl]; rfl)
      rw [List.append_assoc, List.singleton_append] at h
      rw [dropS z83 (by omega)]
      refine Ev.step (fun k => ?_) h
      simp only [impl_copyFlash.l0]
      rw [if_pos (by omega), if_pos (by omega), if_pos (by omega), rdIB_nat, if_pos (by simp only [List.length_nil]; omega), if_pos (by omega), wsucc (n := f.length) (by omega) (by omega), List.nil_append]
  exact main f.length 0 [] (by omega) rfl
theorem sCopyF_ev (f : List S83) (hn : f.length ≤ 1048576) (hk : ∀ x ∈ f, x.f2.length ≤ 1048576) : Ev (fun k => spec_l05Copy.f k f) f := by
  have main : ∀ (d i : Nat) (acc : List S83), i + d = f.length → acc.length = i → Ev (fun k => spec_l05Copy.l0 k (i : Int) f acc) (acc ++ f.drop i) := by
    intro d
    induction d with
    | zero => intro i acc hi hl; exact ev_some fun k => by simp only [spec_l05Copy.l0]; rw [if_neg (by omega), List.drop_eq_nil_of_le (by omega), List.append_nil]
    | succ d ih =>
      intro i acc hi hl
      have hm := hk _ (getD_mem' (z := z83) (show i < f.length by omega))
      have h := ih (i + 1) (acc ++ [f.getD i z83]) (by omega) (by rw [List.length_append, hl]; rfl)
      rw [List.append_assoc, List.singleton_append] at h
      rw [dropS z83 (by omega)]
      refine Ev.step (fun k => ?_) h
      simp only [spec_l05Copy.l0]
      rw [if_pos (by omega), if_pos (by omega), rdIB_nat]
      simp only [Option.bind_some]
      rw [if_pos (by simp only [List.length_nil]; omega), if_pos (by omega), wsucc (n := f.length) (by omega) (by omega), List.nil_append]
  exact main f.length 0 [] (by omega) rfl
def useB (f : List S83) (b : Int) : Bool := flashB f && (decide (0 ≤ b ∧ b ≤ (f.length : Int) - 1) && !(f.getD b.toNat z83).f0)
theorem rdB_toNat (f : List S83) (b : Int) : rd_T83 f b = f.getD b.toNat z83 := rfl
theorem iUse_ev (f : List S83) (b : Int) (hn : f.length ≤ 1048576) (hk : ∀ x ∈ f, x.f2.length ≤ 1048576) : Ev (fun k => impl_usable.f k f b) (useB f b) := by
  unfold impl_usable.f useB
  refine ev_bind (iFlashOk_ev f hn hk) ?_
  by_cases h : flashB f = true
  · simp only [if_pos h, inF_eq, Option.bind_some, w64 (x := (f.length : Int) - 1) (by omega) (by omega), h, Bool.true_and]
    by_cases h2 : 0 ≤ b ∧ b ≤ (f.length : Int) - 1
    · simp only [decide_eq_true h2, if_true, if_pos h2.1, if_pos (show b < (f.length : Int) by omega), Bool.true_and, rdB_toNat]
      exact Ev.now _
    · simp only [decide_eq_false h2, Bool.false_eq_true, if_false, Bool.false_and]
      exact Ev.now _
  · simp only [if_neg h, Bool.eq_false_iff.mpr h, Bool.false_and]
    exact Ev.now _
def progOk (f : List S83) (b a : Int) (t : ByteArray) : Bool := useB f b && (decide (0 ≤ a ∧ a ≤ 3) && (decide (a = nextB (f.getD b.toNat z83).f2) && decide (1 ≤ (t.size : Int) ∧ (t.size : Int) ≤ 120)))
def progB (f : List S83) (b a : Int) (t : ByteArray) : List S83 := f.set b.toNat ⟨(f.getD b.toNat z83).f0, (f.getD b.toNat z83).f1, (f.getD b.toNat z83).f2.set a.toNat ⟨1, t⟩⟩
def programB (f : List S83) (b a : Int) (t : ByteArray) : List S83 × Bool := if progOk f b a t = true then (progB f b a t, true) else (f, false)
def wipeOk (f : List S83) (b : Int) : Bool := useB f b && !decide ((f.getD b.toNat z83).f1 = 1000000000)
def wipedB (f : List S83) (b : Int) : List S83 := f.set b.toNat ⟨false, wrap64 ((f.getD b.toNat z83).f1 + 1), List.replicate 4 z101⟩
def wipeB (f : List S83) (b : Int) : List S83 × Bool := if wipeOk f b = true then (wipedB f b, true) else (f, false)
theorem use_of {f : List S83} {b : Int} (h : useB f b = true) : flashB f = true ∧ 0 ≤ b ∧ b.toNat < f.length ∧ b < (f.length : Int) ∧ (f.getD b.toNat z83).f0 = false := by
  unfold useB at h
  simp only [Bool.and_eq_true, decide_eq_true_eq, Bool.not_eq_true'] at h
  exact ⟨h.1, h.2.1.1, by omega, by omega, h.2.2⟩
theorem four_of {f : List S83} (h : flashB f = true) {i : Nat} (hi : i < f.length) : (f.getD i z83).f2.length = 4 := by
  unfold flashB at h
  simp only [Bool.and_eq_true, List.all_eq_true] at h
  have := h.1 i (by simp; omega)
  unfold blockB at this
  simp only [Bool.and_eq_true, decide_eq_true_eq] at this
  exact this.1
theorem nextB_range (ls : List S101) : 0 ≤ nextB ls := by
  unfold nextB
  rcases findI_range (T := fun i => blankL (ls.getD i z101)) ls.length 0 with h | ⟨j, _, _, h, _⟩
  · simp only [h]; decide
  · simp only [h]
    rw [if_neg (by omega)]
    omega
theorem iProgram_ev (f : List S83) (b a : Int) (t : ByteArray) (hn : f.length ≤ 1048576) (hk : ∀ x ∈ f, x.f2.length ≤ 1048576) : Ev (fun k => impl_Program.f k f b a t) (programB f b a t) := by
  unfold impl_Program.f programB progOk progB
  refine ev_bind (iCopyF_ev f hn hk) (ev_bind (iUse_ev f b hn hk) ?_)
  by_cases hu : useB f b = true
  · obtain ⟨u1, u2, u3, u4, u5⟩ := use_of hu
    have h4 := four_of u1 u3
    simp only [hu, if_true, inF_eq, Option.bind_some, Bool.true_and]
    by_cases ha : 0 ≤ a ∧ a ≤ 3
    · simp only [decide_eq_true ha, if_true, if_pos u2, if_pos u4, Bool.true_and, rdB_toNat]
      refine ev_bind (iNext_ev _ _ _ (by omega)) ?_
      by_cases hx : a = nextB (f.getD b.toNat z83).f2
      · simp only [if_pos hx, decide_eq_true hx, Bool.true_and]
        by_cases ht : 1 ≤ (t.size : Int) ∧ (t.size : Int) ≤ 120
        · have hlt : a < ((f.getD b.toNat z83).f2.length : Int) := by omega
          simp only [decide_eq_true ht, if_true, if_pos ha.1]
          exact ⟨0, fun k _ => if_pos hlt⟩
        · simp only [decide_eq_false ht, Bool.false_eq_true, if_false]
          exact Ev.now _
      · simp only [if_neg hx, decide_eq_false hx, Bool.false_and, Bool.false_eq_true, if_false]
        exact Ev.now _
    · simp only [decide_eq_false ha, Bool.false_and, Bool.false_eq_true, if_false]
      exact Ev.now _
  · simp only [Bool.eq_false_iff.mpr hu, Bool.false_and, Bool.false_eq_true, if_false]
    exact Ev.now _
theorem sProgram_ev (f : List S83) (b a : Int) (t : ByteArray) (hn : f.length ≤ 1048576) (hk : ∀ x ∈ f, x.f2.length ≤ 1048576) : Ev (fun k => spec_Program.f k f b a t) (programB f b a t) := by
  unfold spec_Program.f programB progOk useB progB
  refine ev_bind (sCopyF_ev f hn hk) (ev_bind (sFlashOk_ev f hn hk) ?_)
  by_cases h : flashB f = true
  · simp only [h, if_true, Bool.true_and]
    unfold spec_l05May.f
    simp only [l01InF_eq, Option.bind_some, w64 (x := (f.length : Int) - 1) (by omega) (by omega), Option.bind_assoc]
    by_cases h2 : 0 ≤ b ∧ b ≤ (f.length : Int) - 1
    · have u3 : b.toNat < f.length := by omega
      have h4 := four_of h u3
      simp only [decide_eq_true h2, if_true, if_pos h2.1, if_pos (show b < (f.length : Int) by omega), Bool.true_and, rdB_toNat]
      by_cases hb : (f.getD b.toNat z83).f0 = true
      · simp only [hb, if_true, Option.bind_some, Bool.false_eq_true, if_false, Bool.not_true, Bool.false_and]
        exact Ev.now _
      · simp only [Bool.eq_false_iff.mpr hb, Bool.false_eq_true, if_false, Bool.not_false, Bool.true_and]
        by_cases ha : a < 4
        · simp only [if_pos ha, Option.bind_assoc]
          refine ev_bind (sNext_ev _ _ _ (by omega)) ?_
          by_cases hx : a = nextB (f.getD b.toNat z83).f2
          · have h0 : 0 ≤ a := by rw [hx]; exact nextB_range _
            simp only [if_pos hx, decide_eq_true hx, decide_eq_true (show 0 ≤ a ∧ a ≤ 3 from ⟨h0, by omega⟩), Bool.true_and, Option.bind_some]
            by_cases ht : 1 ≤ (t.size : Int) ∧ (t.size : Int) ≤ 120
            · simp only [decide_eq_true ht, if_true, if_pos h0, if_pos (show a < ((f.getD b.toNat z83).f2.length : Int) by omega)]
              exact Ev.now _
            · simp only [decide_eq_false ht, Bool.false_eq_true, if_false]
              exact Ev.now _
          · simp only [if_neg hx, decide_eq_false hx, Bool.false_and, Bool.and_false, Bool.false_eq_true, if_false, Option.bind_some]
            exact Ev.now _
        · simp only [if_neg ha, decide_eq_false (show ¬ (0 ≤ a ∧ a ≤ 3) by omega), Bool.false_and, Bool.false_eq_true, if_false, Option.bind_some]
          exact Ev.now _
    · simp only [decide_eq_false h2, Bool.false_and, Bool.false_eq_true, if_false, Option.bind_some]
      exact Ev.now _
  · simp only [Bool.eq_false_iff.mpr h, Bool.false_and, Bool.false_eq_true, if_false]
    exact Ev.now _
theorem blank_eq : impl_blankLeaves.f = some (List.replicate 4 z101) := by unfold impl_blankLeaves.f; rw [if_pos (by omega)]
theorem iWipe_ev (f : List S83) (b : Int) (hn : f.length ≤ 1048576) (hk : ∀ x ∈ f, x.f2.length ≤ 1048576) : Ev (fun k => impl_Wipe.f k f b) (wipeB f b) := by
  unfold impl_Wipe.f wipeB wipeOk wipedB
  refine ev_bind (iCopyF_ev f hn hk) (ev_bind (iUse_ev f b hn hk) ?_)
  by_cases hu : useB f b = true
  · obtain ⟨u1, u2, u3, u4, u5⟩ := use_of hu
    have e1 : ∀ v, rd_T83 (f.set b.toNat v) b = v := fun v => getD_set_self u3
    simp only [hu, if_true, Bool.true_and, if_pos u2, if_pos u4, rdB_toNat]
    by_cases hw : (f.getD b.toNat z83).f1 = 1000000000
    · simp only [if_pos hw, decide_eq_true hw, Bool.not_true, Bool.false_eq_true, if_false]
      exact Ev.now _
    · simp only [if_neg hw, decide_eq_false hw, Bool.not_false, if_true, blank_eq, Option.bind_some]
      simp only [← rdB_toNat, e1, List.set_set]
      rw [rdB_toNat, u5]
      exact Ev.now _
  · simp only [Bool.eq_false_iff.mpr hu, Bool.false_and, Bool.false_eq_true, if_false]
    exact Ev.now _
theorem sWipe_ev (f : List S83) (b : Int) (hn : f.length ≤ 1048576) (hk : ∀ x ∈ f, x.f2.length ≤ 1048576) : Ev (fun k => spec_Wipe.f k f b) (wipeB f b) := by
  unfold spec_Wipe.f wipeB wipeOk wipedB useB
  refine ev_bind (sCopyF_ev f hn hk) (ev_bind (sFlashOk_ev f hn hk) ?_)
  by_cases h : flashB f = true
  · simp only [h, if_true, Bool.true_and, l01InF_eq, Option.bind_some, w64 (x := (f.length : Int) - 1) (by omega) (by omega)]
    by_cases h2 : 0 ≤ b ∧ b ≤ (f.length : Int) - 1
    · simp only [decide_eq_true h2, if_true, if_pos h2.1, if_pos (show b < (f.length : Int) by omega), Bool.true_and, rdB_toNat, if_pos (show 4 ≤ 11728124029610 by omega)]
      by_cases hb : (f.getD b.toNat z83).f0 = true
      · simp only [hb, if_true, Bool.not_true, Bool.false_and, Bool.false_eq_true, if_false]
        exact Ev.now _
      · simp only [Bool.eq_false_iff.mpr hb, Bool.false_eq_true, if_false, Bool.not_false, Bool.true_and]
        by_cases hw : (f.getD b.toNat z83).f1 = 1000000000
        · simp only [if_pos hw, decide_eq_true hw, Bool.not_true, Bool.false_eq_true, if_false]
          exact Ev.now _
        · simp only [if_neg hw, decide_eq_false hw, Bool.not_false, if_true]
          exact Ev.now _
    · simp only [decide_eq_false h2, Bool.false_and, Bool.false_eq_true, if_false]
      exact Ev.now _
  · simp only [Bool.eq_false_iff.mpr h, Bool.false_and, Bool.false_eq_true, if_false]
    exact Ev.now _
/-- A step. -/
def doB (f : List S83) (kd b a : Int) (t : ByteArray) : List S83 × Bool := if kd = 1 then programB f b a t else if kd = 2 then wipeB f b else (f, false)
theorem iDo_ev (f : List S83) (kd b a : Int) (t : ByteArray) (hn : f.length ≤ 1048576) (hk : ∀ x ∈ f, x.f2.length ≤ 1048576) : Ev (fun k => impl_DoStep.f k f kd b a t) (doB f kd b a t) := by
  unfold impl_DoStep.f doB
  by_cases h1 : kd = 1
  · simp only [if_pos h1]
    exact ev_bind (iProgram_ev f b a t hn hk) (Ev.now _)
  · simp only [if_neg h1]
    by_cases h2 : kd = 2
    · simp only [if_pos h2]
      exact ev_bind (iWipe_ev f b hn hk) (Ev.now _)
    · simp only [if_neg h2]
      exact ev_bind (iCopyF_ev f hn hk) (Ev.now _)
theorem sDo_ev (f : List S83) (kd b a : Int) (t : ByteArray) (hn : f.length ≤ 1048576) (hk : ∀ x ∈ f, x.f2.length ≤ 1048576) : Ev (fun k => spec_DoStep.f k f kd b a t) (doB f kd b a t) := by
  unfold spec_DoStep.f doB
  by_cases h1 : kd = 1
  · simp only [if_pos h1]
    exact ev_bind (sProgram_ev f b a t hn hk) (Ev.now _)
  · simp only [if_neg h1]
    by_cases h2 : kd = 2
    · simp only [if_pos h2]
      exact ev_bind (sWipe_ev f b hn hk) (Ev.now _)
    · simp only [if_neg h2]
      exact ev_bind (sCopyF_ev f hn hk) (Ev.now _)
theorem doB_le {f : List S83} (kd b a : Int) (t : ByteArray) (hn : f.length ≤ 1048576) (hk : ∀ x ∈ f, x.f2.length ≤ 1048576) : (doB f kd b a t).1.length ≤ 1048576 ∧ ∀ x ∈ (doB f kd b a t).1, x.f2.length ≤ 1048576 := by
  have hset : ∀ (i : Nat) (x : S83), x.f2.length ≤ 1048576 → (f.set i x).length ≤ 1048576 ∧ ∀ y ∈ f.set i x, y.f2.length ≤ 1048576 := fun i x hx => ⟨by rw [List.length_set]; exact hn, fun y hy => by
    rcases List.mem_or_eq_of_mem_set hy with h | h
    · exact hk y h
    · rw [h]; exact hx⟩
  have hz : ∀ i, (f.getD i z83).f2.length ≤ 1048576 := fun i => by
    by_cases hi : i < f.length
    · exact hk _ (getD_mem' hi)
    · rw [List.getD_eq_getElem?_getD, List.getElem?_eq_none (by omega)]; exact Nat.zero_le _
  unfold doB programB wipeB progB wipedB
  split
  · split
    · exact hset _ _ (by rw [List.length_set]; exact hz _)
    · exact ⟨hn, hk⟩
  · split
    · split
      · exact hset _ _ (by simp)
      · exact ⟨hn, hk⟩
    · exact ⟨hn, hk⟩
theorem rdS_nat (l : List S56) (i : Nat) : rd_T56 l (i : Int) = l.getD i z56 := rfl
/-- Steps, as long as they are done. -/
def runB (L : List S56) : Nat → Nat → List S83 → List S83 × Int
  | 0, _, f => (f, (L.length : Int))
  | d + 1, i, f => if (doB f (L.getD i z56).f0 (L.getD i z56).f1 (L.getD i z56).f2 (L.getD i z56).f3).2 = true then runB L d (i + 1) (doB f (L.getD i z56).f0 (L.getD i z56).f1 (L.getD i z56).f2 (L.getD i z56).f3).1 else (f, (i : Int))
theorem runB_le (L : List S56) : ∀ (d i : Nat) (f : List S83), f.length ≤ 1048576 → (∀ x ∈ f, x.f2.length ≤ 1048576) → (runB L d i f).1.length ≤ 1048576 ∧ ∀ x ∈ (runB L d i f).1, x.f2.length ≤ 1048576
  | 0, _, f, h, hk => ⟨h, hk⟩
  | d + 1, i, f, h, hk => by
    unfold runB
    split
    · have hb := doB_le (L.getD i z56).f0 (L.getD i z56).f1 (L.getD i z56).f2 (L.getD i z56).f3 h hk
      exact runB_le L d (i + 1) _ hb.1 hb.2
    · exact ⟨h, hk⟩
end Go.Proofs.Ytklkhnomnanpoaa.Pu

/- What a torn step leaves, and steps that are cut, each as one function; the program and the reference both tell it. -/
namespace Go.Proofs.Ytklkhnomnanpoaa.Pu
open Go.RowKit Go.Proofs.Ytklkhnomnanpoaa.PK Go.Proofs.YtklkhnomnanpoaaW.PrintWords
def tz : S101 := ⟨2, (⟨#[]⟩ : ByteArray)⟩
/-- Leaves of which the first i are torn. -/
def tornL (L : List S101) (i : Nat) : List S101 := List.replicate i tz ++ L.drop i
theorem tornL_set {L : List S101} {i : Nat} (hi : i < L.length) : (tornL L i).set i tz = tornL L (i + 1) := by
  unfold tornL
  rw [List.set_append, if_neg (by simp), List.length_replicate, Nat.sub_self, dropS z101 hi, List.set_cons_zero, List.replicate_succ', List.append_assoc]
  rfl
theorem tornL_len {L : List S101} {i : Nat} (hi : i ≤ L.length) : (tornL L i).length = L.length := by
  unfold tornL; rw [List.length_append, List.length_replicate, List.length_drop]; omega
/-- A flash of whose block b the first i leaves are torn. -/
def tornI (f : List S83) (b i : Nat) : List S83 := f.set b ⟨(f.getD b z83).f0, (f.getD b z83).f1, tornL (f.getD b z83).f2 i⟩
theorem getD_set_at {α : Type} {xs : List α} {i : Nat} {x z : α} (h : i < xs.length) : (xs.set i x).getD i z = x := by
  rw [List.getD_eq_getElem?_getD, List.getElem?_set_self h]; rfl
theorem tornI_get {f : List S83} {b i : Nat} (hb : b < f.length) : (tornI f b i).getD b z83 = ⟨(f.getD b z83).f0, (f.getD b z83).f1, tornL (f.getD b z83).f2 i⟩ := getD_set_at hb
theorem tornI_len (f : List S83) (b i : Nat) : (tornI f b i).length = f.length := List.length_set
theorem tornI_set {f : List S83} {b i : Nat} (hb : b < f.length) (hi : i < (f.getD b z83).f2.length) :
    (tornI f b i).set b ⟨((tornI f b i).getD b z83).f0, ((tornI f b i).getD b z83).f1, ((tornI f b i).getD b z83).f2.set i tz⟩ = tornI f b (i + 1) := by
  rw [tornI_get hb]
  show (tornI f b i).set b ⟨_, _, (tornL _ i).set i tz⟩ = _
  rw [tornL_set hi]
  unfold tornI
  rw [List.set_set]
theorem tornI_zero (f : List S83) (b : Nat) : tornI f b 0 = f := by
  unfold tornI tornL
  rw [List.replicate_zero, List.nil_append, List.drop_zero]
  apply List.ext_getElem?
  intro j
  rw [List.getElem?_set]
  split
  · rename_i h
    subst h
    split
    · rename_i h; rw [List.getD_eq_getElem?_getD, List.getElem?_eq_getElem h]; rfl
    · rename_i h; rw [List.getElem?_eq_none (by omega)]
  · rfl
def tearB (f : List S83) (b a : Int) (t : ByteArray) : List S83 := f.set b.toNat ⟨(f.getD b.toNat z83).f0, (f.getD b.toNat z83).f1, (f.getD b.toNat z83).f2.set a.toNat ⟨2, t.extract 0 ((wrap64 ((t.size : Int) / 2)) : Int).toNat⟩⟩
def tornB (f : List S83) (kd b a : Int) (t : ByteArray) : List S83 × Bool := if (doB f kd b a t).2 = true then (if kd = 1 then (tearB f b a t, true) else (tornI f b.toNat (f.getD b.toNat z83).f2.length, true)) else (f, false)
theorem do_use {f : List S83} {kd b a : Int} {t : ByteArray} (h : (doB f kd b a t).2 = true) : useB f b = true ∧ (kd = 1 → progOk f b a t = true) := by
  unfold doB programB wipeB at h
  by_cases h1 : kd = 1
  · rw [if_pos h1] at h
    by_cases h2 : progOk f b a t = true
    · refine ⟨?_, fun _ => h2⟩
      unfold progOk at h2
      simp only [Bool.and_eq_true] at h2
      exact h2.1
    · rw [if_neg h2] at h; cases h
  · rw [if_neg h1] at h
    by_cases h2 : kd = 2
    · rw [if_pos h2] at h
      by_cases h3 : wipeOk f b = true
      · refine ⟨?_, fun e => absurd e h1⟩
        unfold wipeOk at h3
        simp only [Bool.and_eq_true] at h3
        exact h3.1
      · rw [if_neg h3] at h; cases h
    · rw [if_neg h2] at h; cases h
theorem prog_of {f : List S83} {b a : Int} {t : ByteArray} (h : progOk f b a t = true) : 0 ≤ a ∧ a ≤ 3 ∧ t.size ≤ 120 := by
  unfold progOk at h
  simp only [Bool.and_eq_true, decide_eq_true_eq] at h
  exact ⟨h.2.1.1, h.2.1.2, by have := h.2.2.2.2; omega⟩
theorem iTorn_ev (f : List S83) (kd b a : Int) (t : ByteArray) (hn : f.length ≤ 1048576) (hk : ∀ x ∈ f, x.f2.length ≤ 1048576) : Ev (fun k => impl_Torment.f k f kd b a t) (tornB f kd b a t) := by
  unfold impl_Torment.f tornB
  refine ev_bind (iCopyF_ev f hn hk) (ev_bind (iDo_ev f kd b a t hn hk) ?_)
  by_cases h : (doB f kd b a t).2 = true
  · obtain ⟨hu, hp⟩ := do_use h
    obtain ⟨hf, u1, u2, u3, _⟩ := use_of hu
    have h4 := four_of hf u2
    simp only [if_pos h, if_pos u1, if_pos u3]
    by_cases h1 : kd = 1
    · obtain ⟨p1, p2, p3⟩ := prog_of (hp h1)
      have hw : wrap64 ((t.size : Int) / 2) = (t.size : Int) / 2 := w64 (by omega) (by omega)
      simp only [if_pos h1]
      rw [if_pos (by rw [hw]; omega), if_pos (by rw [hw]; omega), if_pos p1, if_pos (by rw [rdB_toNat]; omega)]
      exact Ev.now _
    · simp only [if_neg h1]
      have main : ∀ (d i : Nat), i + d = 4 → Ev (fun k => impl_Torment.l0 k ((f.getD b.toNat z83).f2.length : Int) (i : Int) kd b a t (tornI f b.toNat i)) (tornI f b.toNat 4, true) := by
        intro d
        induction d with
        | zero =>
          intro i hi
          obtain rfl : i = 4 := by omega
          exact ev_some fun k => by simp only [impl_Torment.l0]; rw [if_neg (by omega)]
        | succ d ih =>
          intro i hi
          refine Ev.step (fun k => ?_) (ih (i + 1) (by omega))
          have hl : (tornI f b.toNat i).length = f.length := tornI_len _ _ _
          have hg : ((tornI f b.toNat i).getD b.toNat z83).f2.length = 4 := by rw [tornI_get u2]; exact (tornL_len (by omega)).trans h4
          simp only [impl_Torment.l0]
          rw [if_pos (by omega), if_pos u1, if_pos (by omega), if_pos (by omega), if_pos (by rw [rdB_toNat]; omega), wsucc (n := 4) (by omega) (by omega), Int.toNat_natCast]
          exact congrArg _ (tornI_set u2 (by omega))
      have := main 4 0 rfl
      rw [tornI_zero] at this
      rw [h4]
      exact this
  · simp only [if_neg h]
    exact Ev.now _
theorem sTorn_ev (f : List S83) (kd b a : Int) (t : ByteArray) (hn : f.length ≤ 1048576) (hk : ∀ x ∈ f, x.f2.length ≤ 1048576) : Ev (fun k => spec_Torment.f k f kd b a t) (tornB f kd b a t) := by
  unfold spec_Torment.f tornB
  refine ev_bind (sDo_ev f kd b a t hn hk) (ev_bind (sCopyF_ev f hn hk) ?_)
  by_cases h : (doB f kd b a t).2 = true
  · obtain ⟨hu, hp⟩ := do_use h
    obtain ⟨hf, u1, u2, u3, _⟩ := use_of hu
    have h4 := four_of hf u2
    simp only [if_pos h]
    by_cases h1 : kd = 1
    · obtain ⟨p1, p2, p3⟩ := prog_of (hp h1)
      have hw : wrap64 ((t.size : Int) / 2) = (t.size : Int) / 2 := w64 (by omega) (by omega)
      simp only [if_pos h1, if_pos u1, if_pos u3]
      rw [if_pos (by rw [hw]; omega), if_pos (by rw [hw]; omega), if_pos p1, if_pos (by rw [rdB_toNat]; omega)]
      exact Ev.now _
    · simp only [if_neg h1]
      have main : ∀ (d i : Nat), i + d = 4 → Ev (fun k => spec_Torment.l0 k (i : Int) kd b a t (tornI f b.toNat i)) (tornI f b.toNat 4, true) := by
        intro d
        induction d with
        | zero =>
          intro i hi
          obtain rfl : i = 4 := by omega
          have hl : (tornI f b.toNat 4).length = f.length := tornI_len _ _ _
          have hg : ((tornI f b.toNat 4).getD b.toNat z83).f2.length = 4 := by rw [tornI_get u2]; exact (tornL_len (by omega)).trans h4
          exact ev_some fun k => by simp only [spec_Torment.l0]; rw [if_pos u1, if_pos (by omega), if_neg (by rw [rdB_toNat]; omega)]
        | succ d ih =>
          intro i hi
          refine Ev.step (fun k => ?_) (ih (i + 1) (by omega))
          have hl : (tornI f b.toNat i).length = f.length := tornI_len _ _ _
          have hg : ((tornI f b.toNat i).getD b.toNat z83).f2.length = 4 := by rw [tornI_get u2]; exact (tornL_len (by omega)).trans h4
          simp only [spec_Torment.l0]
          rw [if_pos u1, if_pos (by omega), if_pos (by rw [rdB_toNat]; omega), if_pos (by omega), wsucc (n := 4) (by omega) (by omega), Int.toNat_natCast]
          exact congrArg _ (tornI_set u2 (by omega))
      have := main 4 0 rfl
      rw [tornI_zero] at this
      rw [h4]
      exact this
  · simp only [if_neg h]
    exact Ev.now _
theorem tornB_le {f : List S83} (kd b a : Int) (t : ByteArray) (hn : f.length ≤ 1048576) (hk : ∀ x ∈ f, x.f2.length ≤ 1048576) : (tornB f kd b a t).1.length ≤ 1048576 ∧ ∀ x ∈ (tornB f kd b a t).1, x.f2.length ≤ 1048576 := by
  have hset : ∀ (i : Nat) (x : S83), x.f2.length ≤ 1048576 → (f.set i x).length ≤ 1048576 ∧ ∀ y ∈ f.set i x, y.f2.length ≤ 1048576 := fun i x hx => ⟨by rw [List.length_set]; exact hn, fun y hy => by
    rcases List.mem_or_eq_of_mem_set hy with h | h
    · exact hk y h
    · rw [h]; exact hx⟩
  have hz : ∀ i, (f.getD i z83).f2.length ≤ 1048576 := fun i => by
    by_cases hi : i < f.length
    · exact hk _ (getD_mem' hi)
    · rw [List.getD_eq_getElem?_getD, List.getElem?_eq_none (by omega)]; exact Nat.zero_le _
  unfold tornB tearB tornI
  split
  · split
    · exact hset _ _ (by rw [List.length_set]; exact hz _)
    · exact hset _ _ (by rw [tornL_len (Nat.le_refl _)]; exact hz _)
  · exact ⟨hn, hk⟩
/-- Steps that are cut. -/
def cutB (f : List S83) (L : List S56) (w : Int) (tn : Bool) : List S83 × Bool :=
  if 0 ≤ w ∧ w ≤ (L.length : Int) then
    (if (runB (L.take w.toNat) (L.take w.toNat).length 0 f).2 < w then (f, false)
     else if tn = true ∧ ¬ w = (L.length : Int) then
       (if (tornB (runB (L.take w.toNat) (L.take w.toNat).length 0 f).1 (L.getD w.toNat z56).f0 (L.getD w.toNat z56).f1 (L.getD w.toNat z56).f2 (L.getD w.toNat z56).f3).2 = true
        then ((tornB (runB (L.take w.toNat) (L.take w.toNat).length 0 f).1 (L.getD w.toNat z56).f0 (L.getD w.toNat z56).f1 (L.getD w.toNat z56).f2 (L.getD w.toNat z56).f3).1, true) else (f, false))
     else ((runB (L.take w.toNat) (L.take w.toNat).length 0 f).1, true))
  else (f, false)
theorem rdS_toNat (L : List S56) (b : Int) : rd_T56 L b = L.getD b.toNat z56 := rfl
theorem cutB_le {f : List S83} (L : List S56) (w : Int) (tn : Bool) (hn : f.length ≤ 1048576) (hk : ∀ x ∈ f, x.f2.length ≤ 1048576) : (cutB f L w tn).1.length ≤ 1048576 ∧ ∀ x ∈ (cutB f L w tn).1, x.f2.length ≤ 1048576 := by
  obtain ⟨b1, b2⟩ := runB_le (L.take w.toNat) (L.take w.toNat).length 0 f hn hk
  have ht := tornB_le (L.getD w.toNat z56).f0 (L.getD w.toNat z56).f1 (L.getD w.toNat z56).f2 (L.getD w.toNat z56).f3 b1 b2
  unfold cutB
  split
  · split
    · exact ⟨hn, hk⟩
    · split
      · split
        · exact ht
        · exact ⟨hn, hk⟩
      · exact ⟨b1, b2⟩
  · exact ⟨hn, hk⟩
end Go.Proofs.Ytklkhnomnanpoaa.Pu

/- A mark's text. -/
namespace Go.Proofs.Ytklkhnomnanpoaa.Pu
open Go.RowKit Go.Proofs.Ytklkhnomnanpoaa.PK Go.Proofs.YtklkhnomnanpoaaW.PrintWords
theorem strOne (n : Int) : (strOfNums [n]).size = 1 := by simp [strOfNums, ByteArray.size]
/-- A mark's text is there. -/
theorem markText_ev (n : Int) (h1 : n ≤ 4611686018427387904) : ∃ t, Ev (fun k => laws_markText.f k n) t := by
  by_cases h : n ≤ 0
  · exact ⟨⟨#[109, 48]⟩, by unfold laws_markText.f; simp only [if_pos h]; exact Ev.now _⟩
  · have main : ∀ (d : Nat) (x : Int) (s : ByteArray), 0 ≤ x → x ≤ d → x ≤ 4611686018427387904 → s.size + d ≤ 4611686018427387905 → ∃ t, Ev (fun k => laws_markText.l0 k x s) t := by
      intro d
      induction d using Nat.strongRecOn with
      | _ d ih =>
        intro x s hx hd hx2 hs
        by_cases hz : x > 0
        · have hq : Int.tdiv x 10 = x / 10 := Int.tdiv_eq_ediv_of_nonneg hx
          obtain ⟨t, ht⟩ := ih (d - 1) (by omega) (x / 10) ((strOfNums [(wrap64 (48 + (Int.tmod x 10))) % 256]) ++ s) (by omega) (by omega) (by omega) (by rw [ByteArray.size_append, strOne]; omega)
          refine ⟨t, Ev.step (fun k => ?_) ht⟩
          simp only [laws_markText.l0]
          rw [if_pos hz]
          simp only [Option.bind_some]
          rw [if_pos (by rw [strOne]; omega), hq, w64 (by omega) (by omega)]
        · exact ⟨_, ev_some fun k => by
            simp only [laws_markText.l0]
            rw [if_neg hz, if_pos (by omega)]⟩
    obtain ⟨t, ht⟩ := main n.toNat n ⟨#[]⟩ (by omega) (by omega) h1 (by show 0 + _ ≤ _; omega)
    exact ⟨t, by unfold laws_markText.f; simp only [if_neg h]; exact ht⟩
end Go.Proofs.Ytklkhnomnanpoaa.Pu

/- Marks of a flash. -/
namespace Go.Proofs.Ytklkhnomnanpoaa.Pu
open Go.RowKit Go.Proofs.Ytklkhnomnanpoaa.PK Go.Proofs.YtklkhnomnanpoaaW.PrintWords
theorem mark_leafs (l : List S101) (a : Int) (hn : l.length ≤ 1048576) (ha : 0 ≤ a) (hM : a + l.length * 2 ≤ 4611686018427387904) :
    ∃ a' l', l'.length = l.length ∧ Ev (fun k => laws_markLeafS.f k l a) (a', l') ∧ Ev (fun k => laws_heldLeafS.f k l' a) a' ∧ a ≤ a' ∧ a' ≤ a + l.length * 2 := by
  obtain ⟨a', l', h1, _, h2, h3, h4, h5⟩ := ev_mark z101 (L := fun k xs a i => laws_markLeafS.l0 k xs a i) (Hd := fun k xs a i => laws_heldLeafS.l0 k xs a i)
    (fun k x a => (laws_markText.f k (wrap64 (a + 1))).bind fun t => some (wrap64 (wrap64 (a + 1) + 1), (⟨a, t⟩ : S101))) (fun k x a => if x.f0 = a then (laws_markText.f k (wrap64 (a + 1))).bind fun t => if x.f1.toList = t.toList then some (wrap64 (wrap64 (a + 1) + 1)) else some (-1) else some (-1)) 2 (fun x => True)
    (fun k xs a i hi _ _ => by
      have e1 : rd_T101 (xs.set i (⟨a, (rd_T101 xs (i : Int)).f1⟩ : S101)) (i : Int) = ⟨a, (rd_T101 xs (i : Int)).f1⟩ := getD_set_self hi
      simp only [laws_markLeafS.l0]
      rw [if_pos (by omega), if_pos (by omega)]
      simp only [Option.bind_some, Int.toNat_natCast, e1, List.set_set, Option.bind_assoc])
    (fun k xs a i hi => by
      simp only [laws_markLeafS.l0]
      rw [if_neg (by omega)])
    (fun k xs a i hi h0 h1 => by
      simp only [laws_heldLeafS.l0]
      rw [if_pos (by omega), if_pos (by omega)]
      show (if (xs.getD i z101).f0 = a then (laws_markText.f k (wrap64 (a + 1))).bind (fun t => if (xs.getD i z101).f1.toList = t.toList then _ else _) else _) = _
      have e2 : wrap64 (wrap64 (a + 1) + 1) = a + 2 := by rw [w64 (x := a + 1) (by omega) (by omega), w64 (by omega) (by omega)]; omega
      by_cases h : (xs.getD i z101).f0 = a
      · simp only [if_pos h, Option.bind_assoc]
        congr 1
        funext t
        by_cases h2 : (xs.getD i z101).f1.toList = t.toList
        · simp only [if_pos h2, e2, Option.bind_some]
          rw [if_neg (by omega)]
        · simp only [if_neg h2, Option.bind_some]
          rw [if_pos (by omega)]
      · simp only [if_neg h, Option.bind_some]
        rw [if_pos (by omega)])
    (fun k xs a i hi => by
      simp only [laws_heldLeafS.l0]
      rw [if_neg (by omega)])
    (by omega)
    (fun x a _ h0 h1 => by
      obtain ⟨t, ht⟩ := markText_ev (a + 1) (by omega)
      have e1 : wrap64 (a + 1) = a + 1 := w64 (by omega) (by omega)
      have e2 : wrap64 (a + 1 + 1) = a + 2 := by rw [w64 (by omega) (by omega)]; omega
      refine ⟨a + 2, ⟨a, t⟩, ?_, ?_, by omega, by omega⟩
      · simp only [e1, e2]
        exact ev_bind ht (Ev.now _)
      · simp only [e1, e2, if_true]
        exact ev_bind ht (by simp only [if_true]; exact Ev.now _))
    l.length 0 l a (by omega) (by omega) (fun _ _ _ => trivial) ha (by omega)
  exact ⟨a', l', h1, h2, h3, h4, h5⟩
theorem mark_blocks (l : List S83) (a : Int) (hn : l.length ≤ 1048576) (hk : ∀ x ∈ l, x.f2.length ≤ 1048576) (ha : 0 ≤ a) (hM : a ≤ 1099511627776) :
    ∃ a' l', l'.length = l.length ∧ Ev (fun k => laws_markBlockS.f k l a) (a', l') ∧ Ev (fun k => laws_heldBlockS.f k l' a) a' ∧ a ≤ a' ∧ a' ≤ a + l.length * 2097154 := by
  obtain ⟨a', l', h1, _, h2, h3, h4, h5⟩ := ev_mark z83 (L := fun k xs a i => laws_markBlockS.l0 k xs a i) (Hd := fun k xs a i => laws_heldBlockS.l0 k xs a i)
    (fun k x a => (laws_markLeafS.f k x.f2 (wrap64 (wrap64 (a + 1) + 1))).bind fun b => some (b.1, (⟨Int.tmod a 3 == 0, wrap64 (a + 1), b.2⟩ : S83))) (fun k x a => if (x.f0 != (Int.tmod a 3 == 0)) = true then some (-1) else if x.f1 = wrap64 (a + 1) then laws_heldLeafS.f k x.f2 (wrap64 (wrap64 (a + 1) + 1)) else some (-1)) 2097154 (fun x => x.f2.length ≤ 1048576)
    (fun k xs a i hi _ _ => by
      have e1 : rd_T83 (xs.set i (⟨Int.tmod a 3 == 0, (rd_T83 xs (i : Int)).f1, (rd_T83 xs (i : Int)).f2⟩ : S83)) (i : Int) = ⟨Int.tmod a 3 == 0, (rd_T83 xs (i : Int)).f1, (rd_T83 xs (i : Int)).f2⟩ := getD_set_self hi
      have e2 : rd_T83 (xs.set i (⟨Int.tmod a 3 == 0, wrap64 (a + 1), (rd_T83 xs (i : Int)).f2⟩ : S83)) (i : Int) = ⟨Int.tmod a 3 == 0, wrap64 (a + 1), (rd_T83 xs (i : Int)).f2⟩ := getD_set_self hi
      simp only [laws_markBlockS.l0]
      rw [if_pos (by omega), if_pos (by omega)]
      simp only [Option.bind_some, Int.toNat_natCast, e1, e2, List.set_set, Option.bind_assoc]
      rfl)
    (fun k xs a i hi => by
      simp only [laws_markBlockS.l0]
      rw [if_neg (by omega)])
    (fun k xs a i hi h0 h1 => by
      simp only [laws_heldBlockS.l0]
      rw [if_pos (by omega), if_pos (by omega)]
      show (if ((xs.getD i z83).f0 != (Int.tmod a 3 == 0)) = true then some (-1) else if (xs.getD i z83).f1 = wrap64 (a + 1) then (laws_heldLeafS.f k (xs.getD i z83).f2 (wrap64 (wrap64 (a + 1) + 1))).bind _ else _) = _
      by_cases h : ((xs.getD i z83).f0 != (Int.tmod a 3 == 0)) = true
      · simp only [if_pos h]; rfl
      · simp only [if_neg h]
        by_cases h2 : (xs.getD i z83).f1 = wrap64 (a + 1)
        · simp only [if_pos h2]
        · simp only [if_neg h2]; rfl)
    (fun k xs a i hi => by
      simp only [laws_heldBlockS.l0]
      rw [if_neg (by omega)])
    (by omega)
    (fun x a hx h0 h1 => by
      obtain ⟨a1, l1, g1, g2, g3, g4, g5⟩ := mark_leafs x.f2 (a + 2) (by omega) (by omega) (by omega)
      have e1 : wrap64 (a + 1) = a + 1 := w64 (by omega) (by omega)
      have e2 : wrap64 (a + 1 + 1) = a + 2 := by rw [w64 (by omega) (by omega)]; omega
      refine ⟨a1, ⟨Int.tmod a 3 == 0, a + 1, l1⟩, ?_, ?_, by omega, by omega⟩
      · simp only [e1, e2]
        exact ev_bind g2 (Ev.now _)
      · simp only [e1, e2, bne_self_eq_false, if_true]
        exact g3)
    l.length 0 l a (by omega) (by omega) (fun j _ hj => hk _ (by rw [List.getD_eq_getElem?_getD, List.getElem?_eq_getElem hj]; exact List.getElem_mem hj)) ha (by omega)
  exact ⟨a', l', h1, h2, h3, h4, h5⟩
theorem mark_flash (l : List S83) (a : Int) (hn : l.length ≤ 1048576) (hk : ∀ x ∈ l, x.f2.length ≤ 1048576) (ha : 0 ≤ a) (hM : a ≤ 1099511627776) :
    ∃ a' l', l'.length = l.length ∧ Ev (fun k => laws_markFlash.f k l a) (a', l') ∧ Ev (fun k => laws_heldFlash.f k l' a) a' ∧ a ≤ a' ∧ a' ≤ a + l.length * 2097154 := by
  obtain ⟨a', l', h1, h2, h3, h4, h5⟩ := mark_blocks l a hn hk ha hM
  refine ⟨a', l', h1, ?_, ?_, h4, h5⟩
  · unfold laws_markFlash.f; exact ev_bind h2 (Ev.now _)
  · unfold laws_heldFlash.f; exact ev_bind h3 (by simp only [if_neg (show ¬ a' < 0 by omega)]; exact Ev.now _)
end Go.Proofs.Ytklkhnomnanpoaa.Pu

/- FnExactTorment: what a torn step leaves is the same by the program and by the reference, and the program's flash is its own. -/
namespace Go.Proofs.Ytklkhnomnanpoaa.Pure
open Go.RowKit Go.Proofs.Ytklkhnomnanpoaa.PK Go.Proofs.YtklkhnomnanpoaaW.PrintWords Go.Proofs.Ytklkhnomnanpoaa.Pu
theorem FnExactTorment : ∀ (l0_0 : List S129) (a1_0 : Int) (a1_1 : Int) (a1_2 : Int) (a1_3 : ByteArray), (l0_0.length ≤ maxLen ∧ ∀ x_l0_0 ∈ l0_0, (True ∧ (Lit.int .i64 x_l0_0.f1).wf = true ∧ (x_l0_0.f2.length ≤ maxLen ∧ ∀ x_x_l0_0f2 ∈ x_l0_0.f2, ((Lit.int .i64 x_x_l0_0f2.f0).wf = true ∧ x_x_l0_0f2.f1.size ≤ maxLen)))) → (Lit.int .i64 a1_0).wf = true → (Lit.int .i64 a1_1).wf = true → (Lit.int .i64 a1_2).wf = true → a1_3.size ≤ maxLen → ∃ k, laws_FnExactTorment.f k l0_0 a1_0 a1_1 a1_2 a1_3 = some true := by
  intro l kd b a t ⟨hl, hx⟩ _ _ _ ht
  refine Ev.rounds (g := fun k => laws_FnExactTorment.f k l kd b a t) ?_
  obtain ⟨r, hr, hq⟩ := flash_start hl (fun x h => ⟨(hx x h).2.2.1, fun y hy => ((hx x h).2.2.2 y hy).2⟩)
  unfold maxLen at hl hx ht
  obtain ⟨r', hr', hra, _⟩ := szFlash_ev l 1048576 (by omega) (by omega) (by omega) (fun x h => ⟨by have := (hx x h).2.2.1; omega, fun y hy => by have := ((hx x h).2.2.2 y hy).2; omega⟩)
  obtain rfl := ev_uniq hr hr'
  have hto2 : laws_toStep.f kd b a t = some (kd, b, a, t) := rfl
  unfold laws_FnExactTorment.f
  refine ev_bind hr ?_
  by_cases h : r < 0
  · simp only [if_pos h]; exact Ev.now _
  simp only [if_neg h]
  unfold laws_szStep.f
  simp only [w64 (x := r - (t.size : Int)) (by omega) (by omega)]
  by_cases h2 : r - (t.size : Int) < 0
  · simp only [if_pos h2, Option.bind_some]
    simp only [if_pos (show (-1 : Int) < 0 by omega)]
    exact Ev.now _
  simp only [if_neg h2, Option.bind_some, hto2]
  obtain ⟨hto, heq, hn, hm⟩ := hq (by omega)
  have hk : ∀ x ∈ toFl l, x.f2.length ≤ 1048576 := fun x hx => (hm x hx).1
  have hsp := sTorn_ev (toFl l) kd b a t hn hk
  have him := iTorn_ev (toFl l) kd b a t hn hk
  obtain ⟨b1, b2⟩ := tornB_le kd b a t hn hk
  revert hsp him b1 b2
  generalize tornB (toFl l) kd b a t = P
  intro hsp him b1 b2
  have eqp := eqFlash_ev P.1 b1 b2
  obtain ⟨ka, A', _, hmk, _, hk0, hka⟩ := mark_flash (toFl l) 1 hn hk (by omega) (by omega)
  obtain ⟨m, g', _, hm1, hm2, hm0, _⟩ := mark_flash P.1 1 b1 b2 (by omega) (by omega)
  refine ev_bind hto (ev_bind hsp (ev_bind hto (ev_bind him (ev_bind eqp ?_))))
  simp only [if_true]
  refine ev_bind hto (ev_bind heq ?_)
  simp only [if_true]
  refine ev_bind hmk (ev_bind eqp ?_)
  simp only [if_true, if_neg (show ¬ ka < 0 by omega)]
  refine ev_bind hm1 (ev_bind hm2 ?_)
  simp only [if_true, if_neg (show ¬ m < 0 by omega)]
  refine ev_bind hto (ev_bind him (ev_bind eqp ?_))
  simp only [if_true]
  refine ev_bind hm2 ?_
  simp only [if_true, if_neg (show ¬ m < 0 by omega)]
  exact Ev.now _
end Go.Proofs.Ytklkhnomnanpoaa.Pure

/- FnExactTorment: whatever the input, the law returns true, and its arguments read as they did. The row, out of the law's own walk and the pure statement. -/
namespace Go.Proofs.Ytklkhnomnanpoaa.fnExactTorment
open Go.ChangeShapes Go.WideShapes Go.ChangeAt Go.RowKit Go.Proofs.Ytklkhnomnanpoaa.Open Go.Proofs.YtklkhnomnanpoaaW.PrintWords Go.Proofs.Ytklkhnomnanpoaa.PK
open Go.ChangeMaps (open_string shut_string)
theorem own : ownKnob Try.prog.godebug = none := by kernel_rfl
theorem laidOut : laidOutB Try.prog = true := by kernel_rfl
set_option maxRecDepth 100000 in
theorem o176 : Opn Try.prog 176 k176 (fun x => ((Lit.int .i64 x.f0).wf = true ∧ x.f1.size ≤ maxLen)) := opn_struct (d := (Kd.pair (Kd.int .i64) Kd.string)) (wf := fun (y : Int × ByteArray) => ((Lit.int .i64 y.1).wf = true ∧ y.2.size ≤ maxLen)) (fun x : S176 => (x.f0, x.f1)) (fun y => (⟨y.1, y.2⟩ : S176)) (fun _ => rfl) Try.underlying176 (by kernel_rfl) (opnF_cons rfl (by kernel_rfl) (opn_int Try.underlying3) (opnF_one rfl (by kernel_rfl) (opn_string Try.underlying9)))
set_option maxRecDepth 100000 in
theorem o129 : Opn Try.prog 129 k129 (fun x => (True ∧ (Lit.int .i64 x.f1).wf = true ∧ (x.f2.length ≤ maxLen ∧ ∀ x_xf2 ∈ x.f2, ((Lit.int .i64 x_xf2.f0).wf = true ∧ x_xf2.f1.size ≤ maxLen)))) := opn_struct (d := (Kd.pair Kd.bool (Kd.pair (Kd.int .i64) (Kd.slice 176 k176)))) (wf := fun (y : Bool × Int × (List S176)) => (True ∧ ((Lit.int .i64 y.2.1).wf = true ∧ (y.2.2.length ≤ maxLen ∧ ∀ x_y22 ∈ y.2.2, ((Lit.int .i64 x_y22.f0).wf = true ∧ x_y22.f1.size ≤ maxLen))))) (fun x : S129 => (x.f0, x.f1, x.f2)) (fun y => (⟨y.1, y.2.1, y.2.2⟩ : S129)) (fun _ => rfl) Try.underlying129 (by kernel_rfl) (opnF_cons rfl (by kernel_rfl) (opn_bool Try.underlying4) (opnF_cons rfl (by kernel_rfl) (opn_int Try.underlying3) (opnF_one rfl (by kernel_rfl) (opn_slice Try.underlying127 (by kernel_rfl) o176))))
set_option maxRecDepth 100000 in
theorem p45 : Opn Try.prog 45 (Kd.slice 129 k129) (fun (y : (List S129)) => (y.length ≤ maxLen ∧ ∀ x_y ∈ y, (True ∧ (Lit.int .i64 x_y.f1).wf = true ∧ (x_y.f2.length ≤ maxLen ∧ ∀ x_x_yf2 ∈ x_y.f2, ((Lit.int .i64 x_x_yf2.f0).wf = true ∧ x_x_yf2.f1.size ≤ maxLen))))) := opn_tuple Try.underlying45 (by kernel_rfl) (opnF_one rfl (by kernel_rfl) (opn_slice Try.underlying43 (by kernel_rfl) o129))
set_option maxRecDepth 100000 in
theorem p47 : Opn Try.prog 47 (Kd.pair (Kd.int .i64) (Kd.pair (Kd.int .i64) (Kd.pair (Kd.int .i64) Kd.string))) (fun (y : (Int × Int × Int × ByteArray)) => ((Lit.int .i64 y.1).wf = true ∧ ((Lit.int .i64 y.2.1).wf = true ∧ ((Lit.int .i64 y.2.2.1).wf = true ∧ y.2.2.2.size ≤ maxLen)))) := opn_tuple Try.underlying47 (by kernel_rfl) (opnF_cons rfl (by kernel_rfl) (opn_int Try.underlying3) (opnF_cons rfl (by kernel_rfl) (opn_int Try.underlying3) (opnF_cons rfl (by kernel_rfl) (opn_int Try.underlying3) (opnF_one rfl (by kernel_rfl) (opn_string Try.underlying9)))))
set_option maxRecDepth 100000 in
set_option maxHeartbeats 4000000 in
theorem lifted (os : Os) (started : os.Started) (H : Type) (enc : TypeId × Value → H) :
    ReturnsInHanded {} Try.checked os 4 .any (Rows.fnExactTormentSpec.pre6 enc Try.prog Try.f4 Rows.fnExactTormentRow.domain false) (Rows.fnExactTormentSpec.post enc Try.prog Try.f4 false true false false) := by
  refine returnsInHanded_of_change_sized (C := Try.checked) own started (by kernel_rfl) Try.func4
    (ChangeSpec.witness6 (enc := enc) (C := Try.checked) false ⟨#[], #[.agg #[.slice none 0 0], .agg #[.int .i64 0, .int .i64 0, .int .i64 0, .string ByteArray.empty]], []⟩ 8 (by kernel_rfl) (by kernel_rfl) (by kernel_rfl) (by kernel_rfl)) ?_
  intro W base args ds gs before hval0 hW hcnd hsz0 _
  have hval : ∀ (j : Nat) t v, Try.f4.params[j]? = some t → args[j]? = some v → Value.okWide Try.prog W .any base t v := hval0
  have hW' := hW
  obtain ⟨p, q, hA0, hV, rfl, hfz, hnd⟩ := hW
  have hA : DataW.TrodAll enc Try.prog W 0 (fun _ => true) true Try.f4.params.toList args.toList ds p := hA0
  rw [Try.params4] at hA hval
  obtain ⟨v0, vs0, d0, ds0, p0, q0, hargs, rfl, rfl, h0, r0⟩ := trodAll_cons hA
  obtain ⟨v1, vs1, d1, ds1, p1, q1, rfl, rfl, rfl, h1, r1⟩ := trodAll_cons r0
  obtain ⟨rfl, rfl, rfl⟩ := trodAll_nil r1
  obtain rfl : args = #[v0, v1] := by cases args; simp_all
  obtain ⟨rfl, rfl⟩ := trodVars_none hV
  have k0 := h0
  have lt0 : ∀ x ∈ p0, x.block < W.heap.size := by obtain ⟨m, hm⟩ := k0; exact DataW.trod_lt m _ _ _ hm
  obtain ⟨fu0, hf0⟩ := h0
  obtain ⟨y0, K0, Y0⟩ := p45 H enc W 0 (fun _ => true) true fu0 _ _ hf0
  obtain ⟨cs0, rfl, sz0⟩ := okWide_struct Try.underlying45 (hval 0 45 v0 rfl rfl)
  obtain ⟨Ac0, Cc0, Ec0, Lc0, Gc0⟩ := K0
  have E0 : cs0 = #[.slice Ac0 y0.length Cc0] := by
    apply Array.toList_inj.1
    have z : cs0.toList = _ := Ec0
    exact z
  subst E0
  have k1 := h1
  have lt1 : ∀ x ∈ p1, x.block < W.heap.size := by obtain ⟨m, hm⟩ := k1; exact DataW.trod_lt m _ _ _ hm
  obtain ⟨fu1, hf1⟩ := h1
  obtain ⟨y1, K1, Y1⟩ := p47 H enc W 0 (fun _ => true) true fu1 _ _ hf1
  obtain ⟨cs1, rfl, sz1⟩ := okWide_struct Try.underlying47 (hval 1 47 v1 rfl rfl)
  obtain ⟨c1_0, c1_r0, ec1_r0, hc1_0, hc1_r0⟩ := K1
  have Ec1_0 := hc1_0
  obtain ⟨c1_r0_1, c1_r0_r1, ec1_r0_r1, hc1_r0_1, hc1_r0_r1⟩ := hc1_r0
  have Ec1_r0_1 := hc1_r0_1
  obtain ⟨c1_r0_r1_2, c1_r0_r1_r2, ec1_r0_r1_r2, hc1_r0_r1_2, hc1_r0_r1_r2⟩ := hc1_r0_r1
  have Ec1_r0_r1_2 := hc1_r0_r1_2
  have Ec1_r0_r1_r2 := hc1_r0_r1_r2
  have E1 : cs1 = #[.int .i64 y1.1, .int .i64 y1.2.1, .int .i64 y1.2.2.1, .string y1.2.2.2] := by
    apply Array.toList_inj.1
    have z : cs1.toList = _ := ec1_r0
    rw [z]
    rw [ec1_r0_r1, ec1_r0_r1_r2, Ec1_0, Ec1_r0_1, Ec1_r0_r1_2, Ec1_r0_r1_r2]
    rfl
  subst E1
  obtain ⟨k, hp⟩ := Pure.FnExactTorment y0 y1.1 y1.2.1 y1.2.2.1 y1.2.2.2 Y0 Y1.1 Y1.2.1 Y1.2.2.1 Y1.2.2.2
  clear hA0 hval0 hsz0
  refine (laws_FnExactTorment.calls k Ac0 Cc0 y0 y1.1 y1.2.1 y1.2.2.1 y1.2.2.2 true ⟨rfl⟩ W Gc0 Lc0 hp).mono fun e W' ⟨he, bel0⟩ => ?_
  have bel : Below W.heap.size W W' := bel0
  subst he
  exact ⟨_, rfl, _, _, _, [], _, [], hW', trodAll_mk1 (shut_bool Try.underlying4 _), (trodAll_cons_mk (Below.trod laidOut (by kernel_rfl) (of_decide_eq_true (by kernel_rfl)) k0 bel lt0) (trodAll_cons_mk (Below.trod laidOut (by kernel_rfl) (of_decide_eq_true (by kernel_rfl)) k1 bel lt1) trodAll_mk0)), rfl, bel.frame _, fun h => by cases h⟩
theorem over : Rows.fnExactTormentRow.holds Try.pinned (OpenSpec.ofChange Rows.fnExactTormentSpec) :=
  OpenClaim.holds_of_wide 4 Try.f4 rfl rfl rfl rfl rfl rfl rfl ⟨rfl, rfl, rfl, rfl, rfl⟩ rfl rfl rfl rfl rfl (by kernel_rfl) Try.func4 (by kernel_rfl)
    (of_decide_eq_true (by kernel_rfl)) (by unfold Func.isWrapper; first | (rw [if_pos (by decide +kernel)]; kernel_rfl) | (rw [if_neg (by decide +kernel)]; exact ⟨rfl, rfl⟩))
    (fun os started H enc _ => lifted os started H enc)
theorem proved : Rows.FnExactTormentSaid := over
#print axioms proved
end Go.Proofs.Ytklkhnomnanpoaa.fnExactTorment
namespace Go.Proofs.Ytklkhnomnanpoaa
/-- The row, under a short name, for the claim. -/
theorem fnExactTorment_holds : Rows.FnExactTormentSaid := fnExactTorment.proved
end Go.Proofs.Ytklkhnomnanpoaa
