/- FnExactTxPages: functions of the translation as Lean functions with what their calls come to, plain lemmas on them, and, at the end, the row. Parts of one proof, merged by a program of this session; each part's own sentence stands at its head. -/
import Derived.Test.YtdolplcbokioaaaRows
import Derived.WalkKit
import Derived.ProofKit
import Derived.OpenShut
import Derived.ShutString
import Derived.ChangeOld
import Derived.Below
import Derived.SizedLaws
import Derived.Test.YtdolplcbokioaaaMFnExactTxPagesc
/- Marks of a row of pages, and a row of pages held against itself. -/
namespace Go.Proofs.Ytdolplcbokioaaa.Pu
set_option linter.unusedVariables false
set_option linter.unusedSimpArgs false
open Go.RowKit Go.Proofs.Ytdolplcbokioaaa.PB Go.Proofs.YtdolplcbokioaaaW.PrintWords

theorem mark_pages (l : List S33) (a : Int) (hn : l.length ≤ 1048576) (ha : 0 ≤ a) (hM : a ≤ 1099511627776) :
    ∃ a' l', l'.length = l.length ∧ Ev (fun k => laws_markPageS.f k l a) (a', l') ∧ Ev (fun k => laws_heldPageS.f k l' a) a' ∧ a ≤ a' ∧ a' ≤ a + l.length * 6 := by
  obtain ⟨a', l', h1, _, h2, h3, h4, h5⟩ := ev_mark z33 (L := fun k xs a i => laws_markPageS.l0 k xs a i) (Hd := fun k xs a i => laws_heldPageS.l0 k xs a i)
    (fun k x a => (laws_markText.f k (wrap64 ((wrap64 ((wrap64 ((wrap64 ((wrap64 (a + 1)) + 1)) + 1)) + 1)) + 1))).bind fun t => some (wrap64 ((wrap64 ((wrap64 ((wrap64 ((wrap64 ((wrap64 (a + 1)) + 1)) + 1)) + 1)) + 1)) + 1), (⟨a, wrap64 (a + 1), wrap64 ((wrap64 (a + 1)) + 1), wrap64 ((wrap64 ((wrap64 (a + 1)) + 1)) + 1), wrap64 ((wrap64 ((wrap64 ((wrap64 (a + 1)) + 1)) + 1)) + 1), t⟩ : S33))) (fun k x a => (if x.f0 = a then (if x.f1 = (wrap64 (a + 1)) then (if x.f2 = (wrap64 ((wrap64 (a + 1)) + 1)) then (if x.f3 = (wrap64 ((wrap64 ((wrap64 (a + 1)) + 1)) + 1)) then (if x.f4 = (wrap64 ((wrap64 ((wrap64 ((wrap64 (a + 1)) + 1)) + 1)) + 1)) then ((laws_markText.f k (wrap64 ((wrap64 ((wrap64 ((wrap64 ((wrap64 (a + 1)) + 1)) + 1)) + 1)) + 1))).bind fun t => if x.f5.toList = t.toList then some (wrap64 ((wrap64 ((wrap64 ((wrap64 ((wrap64 ((wrap64 (a + 1)) + 1)) + 1)) + 1)) + 1)) + 1)) else some (-1)) else some (-1)) else some (-1)) else some (-1)) else some (-1)) else some (-1))) 6 (fun _ => True)
    (fun k xs a i hi _ _ => by
      have e1 : ∀ v, rd_T33 (xs.set i v) (i : Int) = v := fun v => getD_set_self hi
      simp only [laws_markPageS.l0]
      rw [if_pos (by omega), if_pos (by omega)]
      simp only [Option.bind_some, Int.toNat_natCast, e1, List.set_set, Option.bind_assoc])
    (fun k xs a i hi => by
      simp only [laws_markPageS.l0]
      rw [if_neg (by omega)])
    (fun k xs a i hi h0 h1 => by
      have er : rd_T33 xs (i : Int) = xs.getD i z33 := rfl
      have ew : wrap64 ((wrap64 ((wrap64 ((wrap64 ((wrap64 ((wrap64 (a + 1)) + 1)) + 1)) + 1)) + 1)) + 1) = a + 6 := by rw [w64 (x := a + 1) (by omega) (by omega)]; rw [w64 (x := a + 1 + 1) (by omega) (by omega)]; rw [w64 (x := a + 1 + 1 + 1) (by omega) (by omega)]; rw [w64 (x := a + 1 + 1 + 1 + 1) (by omega) (by omega)]; rw [w64 (x := a + 1 + 1 + 1 + 1 + 1) (by omega) (by omega)]; rw [w64 (x := a + 1 + 1 + 1 + 1 + 1 + 1) (by omega) (by omega)]; omega
      simp only [laws_heldPageS.l0]
      rw [if_pos (by omega), if_pos (by omega), er]
      generalize xs.getD i z33 = y
      by_cases q0 : y.f0 = a
      rotate_left
      · simp only [if_neg q0, Option.bind_some]
        rw [if_pos (by omega)]
      by_cases q1 : y.f1 = wrap64 (a + 1)
      rotate_left
      · simp only [if_pos q0, if_neg q1, Option.bind_some]
        rw [if_pos (by omega)]
      by_cases q2 : y.f2 = wrap64 ((wrap64 (a + 1)) + 1)
      rotate_left
      · simp only [if_pos q0, if_pos q1, if_neg q2, Option.bind_some]
        rw [if_pos (by omega)]
      by_cases q3 : y.f3 = wrap64 ((wrap64 ((wrap64 (a + 1)) + 1)) + 1)
      rotate_left
      · simp only [if_pos q0, if_pos q1, if_pos q2, if_neg q3, Option.bind_some]
        rw [if_pos (by omega)]
      by_cases q4 : y.f4 = wrap64 ((wrap64 ((wrap64 ((wrap64 (a + 1)) + 1)) + 1)) + 1)
      rotate_left
      · simp only [if_pos q0, if_pos q1, if_pos q2, if_pos q3, if_neg q4, Option.bind_some]
        rw [if_pos (by omega)]
      simp only [if_pos q0, if_pos q1, if_pos q2, if_pos q3, if_pos q4, Option.bind_assoc]
      congr 1
      funext t
      by_cases q5 : y.f5.toList = t.toList
      · simp only [if_pos q5, Option.bind_some]
        rw [if_neg (by omega)]
      · simp only [if_neg q5, Option.bind_some]
        rw [if_pos (by omega)])
    (fun k xs a i hi => by
      simp only [laws_heldPageS.l0]
      rw [if_neg (by omega)])
    (by omega)
    (fun x a _ h0 h1 => by
      have ew : wrap64 ((wrap64 ((wrap64 ((wrap64 ((wrap64 ((wrap64 (a + 1)) + 1)) + 1)) + 1)) + 1)) + 1) = a + 6 := by rw [w64 (x := a + 1) (by omega) (by omega)]; rw [w64 (x := a + 1 + 1) (by omega) (by omega)]; rw [w64 (x := a + 1 + 1 + 1) (by omega) (by omega)]; rw [w64 (x := a + 1 + 1 + 1 + 1) (by omega) (by omega)]; rw [w64 (x := a + 1 + 1 + 1 + 1 + 1) (by omega) (by omega)]; rw [w64 (x := a + 1 + 1 + 1 + 1 + 1 + 1) (by omega) (by omega)]; omega
      have ew5 : wrap64 ((wrap64 ((wrap64 ((wrap64 ((wrap64 (a + 1)) + 1)) + 1)) + 1)) + 1) = a + 5 := by rw [w64 (x := a + 1) (by omega) (by omega)]; rw [w64 (x := a + 1 + 1) (by omega) (by omega)]; rw [w64 (x := a + 1 + 1 + 1) (by omega) (by omega)]; rw [w64 (x := a + 1 + 1 + 1 + 1) (by omega) (by omega)]; rw [w64 (x := a + 1 + 1 + 1 + 1 + 1) (by omega) (by omega)]; omega
      have ew6 : wrap64 (a + 5 + 1) = a + 6 := by rw [w64 (by omega) (by omega)]; omega
      obtain ⟨t, ht⟩ := markText_ev (a + 5) (by omega)
      refine ⟨a + 6, ⟨a, wrap64 (a + 1), wrap64 ((wrap64 (a + 1)) + 1), wrap64 ((wrap64 ((wrap64 (a + 1)) + 1)) + 1), wrap64 ((wrap64 ((wrap64 ((wrap64 (a + 1)) + 1)) + 1)) + 1), t⟩, ?_, ?_, by omega, by omega⟩
      · simp only [ew5, ew6]
        exact ev_bind ht (Ev.now _)
      · simp only [if_true, ew5, ew6]
        exact ev_bind ht (by simp only [if_true]; exact Ev.now _))
    l.length 0 l a (by omega) (by omega) (fun _ _ _ => trivial) ha (by omega)
  exact ⟨a', l', h1, h2, h3, h4, h5⟩
theorem eqPageS_ev (l : List S33) (hn : l.length ≤ 9223372036854775807) : Ev (fun k => laws_eqPageS.f k l l) true := by
  have h1 := ev_all (n := l.length) (m := l.length) (L := fun k i => laws_eqPageS.l0 k l l i) (E := fun _ i => laws_eqPage.f (rd_T33 l i).f0 (rd_T33 l i).f1 (rd_T33 l i).f2 (rd_T33 l i).f3 (rd_T33 l i).f4 (rd_T33 l i).f5 (rd_T33 l i).f0 (rd_T33 l i).f1 (rd_T33 l i).f2 (rd_T33 l i).f3 (rd_T33 l i).f4 (rd_T33 l i).f5) hn (Nat.le_refl _) (fun k i => by simp only [laws_eqPageS.l0]) (fun i _ => ev_const (by unfold laws_eqPage.f; simp only [if_true])) l.length 0 (by omega)
  unfold laws_eqPageS.f
  simp only [if_true]
  exact h1
end Go.Proofs.Ytdolplcbokioaaa.Pu

/- More plain facts on rounds: tests in a row, folds, searches. -/
namespace Go.Proofs.Ytdolplcbokioaaa.Pu
set_option linter.unusedVariables false
set_option linter.unusedSimpArgs false
open Go.RowKit Go.Proofs.YtdolplcbokioaaaW.PrintWords

/-- Tests in a row, one a round; then what comes. -/
theorem ev_scan {L : Nat → Int → Option Bool} {g : Nat → Option Bool} {n : Nat} {T : Nat → Bool} {r : Bool}
    (hs : ∀ k i, i < n → L (k + 1) (i : Int) = if T i = true then L k ((i + 1 : Nat) : Int) else some false) (he : ∀ k, L (k + 1) (n : Int) = g k) (hr : Ev g r) :
    ∀ (d i : Nat), i + d = n → Ev (fun k => L k (i : Int)) ((List.range' i d).all T && r) := by
  intro d
  induction d with
  | zero =>
    intro i hi
    obtain rfl : i = n := by omega
    exact Ev.step he hr
  | succ d ih =>
    intro i hi
    rw [List.range'_succ, List.all_cons]
    by_cases h : T i = true
    · rw [h, Bool.true_and]
      exact Ev.step (fun k => by rw [hs k i (by omega), if_pos h]) (ih (i + 1) (by omega))
    · rw [Bool.eq_false_iff.mpr h, Bool.false_and, Bool.false_and]
      exact ev_some fun k => by rw [hs k i (by omega), if_neg h]
/-- Tests in a row, each of many rounds; then what comes. -/
theorem ev_outer {L : Nat → Int → Option Bool} {n : Nat} {T : Nat → Bool} {r0 : Bool}
    (hs : ∀ i r, i < n → Ev (fun k => L k ((i + 1 : Nat) : Int)) r → Ev (fun k => L k (i : Int)) (T i && r)) (he : Ev (fun k => L k (n : Int)) r0) :
    ∀ (d i : Nat), i + d = n → Ev (fun k => L k (i : Int)) ((List.range' i d).all T && r0) := by
  intro d
  induction d with
  | zero =>
    intro i hi
    obtain rfl : i = n := by omega
    exact he
  | succ d ih =>
    intro i hi
    rw [List.range'_succ, List.all_cons, Bool.and_assoc]
    exact hs i _ (by omega) (ih (i + 1) (by omega))
/-- A state that is carried along; then what comes. -/
theorem ev_fold {σ ρ : Type} {L : Nat → σ → Int → Option ρ} {n : Nat} {F : σ → Nat → σ} {fin : σ → ρ} (Inv : Nat → σ → Prop)
    (hs : ∀ s i, i < n → Inv i s → ∀ r, Ev (fun k => L k (F s i) ((i + 1 : Nat) : Int)) r → Ev (fun k => L k s (i : Int)) r) (hi : ∀ s i, i < n → Inv i s → Inv (i + 1) (F s i))
    (he : ∀ s, Inv n s → Ev (fun k => L k s (n : Int)) (fin s)) : ∀ (d i : Nat) (s : σ), i + d = n → Inv i s → Ev (fun k => L k s (i : Int)) (fin ((List.range' i d).foldl F s)) := by
  intro d
  induction d with
  | zero =>
    intro i s h hv
    obtain rfl : i = n := by omega
    exact he s hv
  | succ d ih =>
    intro i s h hv
    rw [List.range'_succ, List.foldl_cons]
    exact hs s i (by omega) hv _ (ih (i + 1) (F s i) (by omega) (hi s i (by omega) hv))
/-- The first place that meets a test, -1 without one. -/
def findI (T : Nat → Bool) : Nat → Nat → Int
  | _, 0 => -1
  | i, d + 1 => if T i = true then (i : Int) else findI T (i + 1) d
theorem ev_find {L : Nat → Int → Option Int} {n : Nat} {T : Nat → Bool}
    (hy : ∀ i, i < n → T i = true → Ev (fun k => L k (i : Int)) (i : Int)) (hn : ∀ i, i < n → T i = false → ∀ r, Ev (fun k => L k ((i + 1 : Nat) : Int)) r → Ev (fun k => L k (i : Int)) r)
    (he : Ev (fun k => L k (n : Int)) (-1)) : ∀ (d i : Nat), i + d = n → Ev (fun k => L k (i : Int)) (findI T i d) := by
  intro d
  induction d with
  | zero =>
    intro i hi
    obtain rfl : i = n := by omega
    exact he
  | succ d ih =>
    intro i hi
    unfold findI
    by_cases h : T i = true
    · rw [if_pos h]; exact hy i (by omega) h
    · rw [if_neg h]; exact hn i (by omega) (Bool.eq_false_iff.mpr h) _ (ih (i + 1) (by omega))
theorem findI_range {T : Nat → Bool} : ∀ (d i : Nat), findI T i d = -1 ∨ ∃ j, i ≤ j ∧ j < i + d ∧ findI T i d = (j : Int) ∧ T j = true
  | 0, i => .inl rfl
  | d + 1, i => by
    unfold findI
    by_cases h : T i = true
    · rw [if_pos h]; exact .inr ⟨i, Nat.le_refl _, by omega, rfl, h⟩
    · rw [if_neg h]
      rcases findI_range d (i + 1) with h1 | ⟨j, h1, h2, h3, h4⟩
      · exact .inl h1
      · exact .inr ⟨j, by omega, by omega, h3, h4⟩
theorem bytes_empty (a : ByteArray) : (a.toList == ([] : List UInt8)) = decide ((a.size : Int) ≤ 0) := by
  rw [ByteArray.toList_eq]
  have h : a.data.toList.length = a.size := by rw [Array.length_toList]; rfl
  cases e : a.data.toList with
  | nil =>
    have h1 : a.size = 0 := by rw [← h, e]; rfl
    rw [decide_eq_true (by omega)]; rfl
  | cons x l =>
    have h1 : a.size = l.length + 1 := by rw [← h, e]; rfl
    rw [decide_eq_false (by omega)]; rfl
theorem getD_mem' {α : Type} {l : List α} {i : Nat} {z : α} (hi : i < l.length) : l.getD i z ∈ l := by
  rw [List.getD_eq_getElem?_getD, List.getElem?_eq_getElem hi]; exact List.getElem_mem hi
end Go.Proofs.Ytdolplcbokioaaa.Pu

/- A row of records as data. -/
namespace Go.Proofs.Ytdolplcbokioaaa.Pu
set_option linter.unusedVariables false
set_option linter.unusedSimpArgs false
open Go.RowKit Go.Proofs.Ytdolplcbokioaaa.PB Go.Proofs.YtdolplcbokioaaaW.PrintWords

theorem rdLR_nat (l : List S160) (i : Nat) : rd_T160 l (i : Int) = l.getD i z160 := rfl
theorem rdIR_nat (l : List S90) (i : Nat) : rd_T90 l (i : Int) = l.getD i z90 := rfl
def toRc (x : S160) : S90 := ⟨x.f0, x.f1, x.f2, x.f3⟩
theorem toRecS_ev (l : List S160) (h : l.length ≤ 1048576) : Ev (fun k => laws_toRecS.f k l) (l.map toRc) := by
  have h1 := ev_fill_all (E := fun _ i => (laws_toRec.f (rd_T160 l i).f0 (rd_T160 l i).f1 (rd_T160 l i).f2 (rd_T160 l i).f3).bind fun bt => some (⟨bt.1, bt.2.1, bt.2.2.1, bt.2.2.2⟩ : S90)) (l := l) (z := z160) (g := toRc) (xs := List.replicate l.length z90) (L := fun k xs i => laws_toRecS.l0 k l xs i) (by omega) (fun k xs i => by
    simp only [laws_toRecS.l0, Option.bind_assoc, Option.bind_some]) (fun i hi => by rw [rdLR_nat]; exact Ev.now _) (by simp)
  refine ev_ext (fun k => ?_) h1
  unfold laws_toRecS.f
  rw [if_pos (by omega), if_pos (by simp; omega)]
  simp
theorem eqRecS_ev (l : List S90) (hn : l.length ≤ 9223372036854775807) : Ev (fun k => laws_eqRecS.f k l l) true := by
  have h1 := ev_all (n := l.length) (m := l.length) (L := fun k i => laws_eqRecS.l0 k l l i) (E := fun _ i => laws_eqRec.f (rd_T90 l i).f0 (rd_T90 l i).f1 (rd_T90 l i).f2 (rd_T90 l i).f3 (rd_T90 l i).f0 (rd_T90 l i).f1 (rd_T90 l i).f2 (rd_T90 l i).f3) hn (Nat.le_refl _) (fun k i => by simp only [laws_eqRecS.l0]) (fun i _ => ev_const (by unfold laws_eqRec.f; simp only [if_true])) l.length 0 (by omega)
  unfold laws_eqRecS.f
  simp only [if_true]
  exact h1
end Go.Proofs.Ytdolplcbokioaaa.Pu

/- FnExactTxPages: the program's and the reference's pages of a transaction are one, and the program's are its own. -/
namespace Go.Proofs.Ytdolplcbokioaaa.Pure
set_option linter.unusedVariables false
set_option linter.unusedSimpArgs false
open Go.RowKit Go.Proofs.Ytdolplcbokioaaa.PB Go.Proofs.YtdolplcbokioaaaW.PrintWords Go.Proofs.Ytdolplcbokioaaa.Pu

theorem mark_recs1 (l : List S90) (a : Int) (hn : l.length ≤ 1048576) (ha : 0 ≤ a) (hM : a ≤ 1099511627776) : ∃ a' l', Ev (fun k => laws_markRecS.f k l a) (a', l') ∧ a ≤ a' := by
  obtain ⟨a', l', h1, h2, h3⟩ := ev_mark1 z90 (L := fun k xs a i => laws_markRecS.l0 k xs a i)
    (fun _ x a => some (wrap64 (wrap64 (wrap64 (wrap64 (a + 1) + 1) + 1) + 1), (⟨a, wrap64 (a + 1), wrap64 (wrap64 (a + 1) + 1), wrap64 (wrap64 (wrap64 (a + 1) + 1) + 1)⟩ : S90))) 4
    (fun k xs a i hi _ _ => by
      have e1 : ∀ v, rd_T90 (xs.set i v) (i : Int) = v := fun v => getD_set_self hi
      simp only [laws_markRecS.l0]
      rw [if_pos (by omega), if_pos (by omega)]
      simp only [Option.bind_some, Int.toNat_natCast, e1, List.set_set])
    (fun k xs a i hi => by
      simp only [laws_markRecS.l0]
      rw [if_neg (by omega)])
    (by omega)
    (fun x a h0 h1 => ⟨a + 4, _, by
      have ew : wrap64 (wrap64 (wrap64 (wrap64 (a + 1) + 1) + 1) + 1) = a + 4 := by rw [w64 (x := a + 1) (by omega) (by omega), w64 (x := a + 1 + 1) (by omega) (by omega), w64 (x := a + 1 + 1 + 1) (by omega) (by omega), w64 (x := a + 1 + 1 + 1 + 1) (by omega) (by omega)]; omega
      rw [ew]
      exact Ev.now _, by omega, by omega⟩)
    l.length 0 l a (by omega) (by omega) ha (by omega)
  exact ⟨a', l', h1, h2⟩
theorem FnExactTxPages : ∀ (a0 : Int) (a1 : Int) (l2 : List S160), (Lit.int .i64 a0).wf = true → (Lit.int .i64 a1).wf = true → (l2.length ≤ maxLen ∧ ∀ x_l2 ∈ l2, ((Lit.int .i64 x_l2.f0).wf = true ∧ (Lit.int .i64 x_l2.f1).wf = true ∧ (Lit.int .i64 x_l2.f2).wf = true ∧ (Lit.int .i64 x_l2.f3).wf = true)) → ∃ k, laws_FnExactTxPages.f k a0 a1 l2 = some true := by
  intro s x l _ _ ⟨hl, _⟩
  refine Ev.rounds (g := fun k => laws_FnExactTxPages.f k s x l) ?_
  unfold maxLen at hl
  unfold laws_FnExactTxPages.f laws_szRecS.f
  rw [w64 (x := 1048576 - (l.length : Int)) (by omega) (by omega)]
  by_cases h : (1048576 : Int) - (l.length : Int) < 0
  · simp only [if_pos h, Option.bind_some]
    simp only [if_pos (show (-1 : Int) < 0 by omega)]
    exact Ev.now _
  · simp only [if_neg h, Option.bind_some]
    have hn : l.length ≤ 1048576 := by omega
    have hln : (l.map toRc).length = l.length := List.length_map _
    have hto := toRecS_ev l hn
    have eqr := eqRecS_ev (l.map toRc) (by omega)
    have hs := sTx_ev s x (l.map toRc) (by omega)
    have hi := iTx_ev s x (l.map toRc) (by omega)
    have h9 := txFin_len s x (txs (l.map toRc) [⟨#[]⟩])
    revert hs hi h9
    generalize txFin s x (txs (l.map toRc) [⟨#[]⟩]) = P
    intro hs hi h9
    have eqp := eqPageS_ev P.1 (by omega)
    obtain ⟨ka, A', hmk, hk0⟩ := mark_recs1 (l.map toRc) 1 (by omega) (by omega) (by omega)
    obtain ⟨m, g', _, hm1, hm2, hm0, _⟩ := mark_pages P.1 1 (by omega) (by omega) (by omega)
    have j2 : Ev (fun k => laws_FnExactTxPages.j2 k g' m false) true := by
      refine Ev.step (f := fun k => (laws_heldPageS.f k g' 1).bind fun t => if t < 0 then some false else if t = m then some true else some false) (fun k => by simp [laws_FnExactTxPages.j2]) (ev_bind hm2 ?_)
      simp only [if_neg (show ¬ m < 0 by omega), if_true]
      exact Ev.now _
    have j1 : Ev (fun k => laws_FnExactTxPages.j1 k s x l P.1 P.2 P.1 false) true := by
      apply ev_step_bind hm1
      case hL =>
        intro k
        simp only [laws_FnExactTxPages.j1]
        rw [if_neg (by decide)]
      refine ev_bind hm2 ?_
      simp only [if_neg (show ¬ m < 0 by omega), if_true]
      refine ev_bind hto (ev_bind hi (ev_bind eqp ?_))
      simp only [if_true, bne_self_eq_false]
      exact j2
    have j0 : Ev (fun k => laws_FnExactTxPages.j0 k s x l P.1 P.2 (l.map toRc) P.1 P.2 false) true := by
      apply ev_step_bind hto
      case hL =>
        intro k
        simp only [laws_FnExactTxPages.j0]
        rw [if_neg (by decide)]
      refine ev_bind eqr ?_
      simp only [if_true]
      refine ev_bind hmk ?_
      simp only [if_neg (show ¬ ka < 0 by omega)]
      refine ev_bind eqp ?_
      simp only [if_true, bne_self_eq_false]
      exact j1
    refine ev_bind hto (ev_bind hs (ev_bind hto (ev_bind hi (ev_bind eqp ?_))))
    simp only [if_true, bne_self_eq_false]
    exact j0
end Go.Proofs.Ytdolplcbokioaaa.Pure

/- FnExactTxPages: whatever the input, the law returns true, and its arguments read as they did. The row, out of the law's own walk and the pure statement. -/
namespace Go.Proofs.Ytdolplcbokioaaa.fnExactTxPages
open Go.ChangeShapes Go.WideShapes Go.ChangeAt Go.RowKit Go.Proofs.Ytdolplcbokioaaa.Open Go.Proofs.YtdolplcbokioaaaW.PrintWords Go.Proofs.Ytdolplcbokioaaa.PB
open Go.ChangeMaps (open_string shut_string)
theorem own : ownKnob Try.prog.godebug = none := by kernel_rfl
theorem laidOut : laidOutB Try.prog = true := by kernel_rfl
set_option maxRecDepth 100000 in
theorem o160 : Opn Try.prog 160 k160 (fun x => ((Lit.int .i64 x.f0).wf = true ∧ (Lit.int .i64 x.f1).wf = true ∧ (Lit.int .i64 x.f2).wf = true ∧ (Lit.int .i64 x.f3).wf = true)) := opn_struct (d := (Kd.pair (Kd.int .i64) (Kd.pair (Kd.int .i64) (Kd.pair (Kd.int .i64) (Kd.int .i64))))) (wf := fun (y : Int × Int × Int × Int) => ((Lit.int .i64 y.1).wf = true ∧ ((Lit.int .i64 y.2.1).wf = true ∧ ((Lit.int .i64 y.2.2.1).wf = true ∧ (Lit.int .i64 y.2.2.2).wf = true)))) (fun x : S160 => (x.f0, x.f1, x.f2, x.f3)) (fun y => (⟨y.1, y.2.1, y.2.2.1, y.2.2.2⟩ : S160)) (fun _ => rfl) Try.underlying160 (by kernel_rfl) (opnF_cons rfl (by kernel_rfl) (opn_int Try.underlying3) (opnF_cons rfl (by kernel_rfl) (opn_int Try.underlying3) (opnF_cons rfl (by kernel_rfl) (opn_int Try.underlying3) (opnF_one rfl (by kernel_rfl) (opn_int Try.underlying3)))))
set_option maxRecDepth 100000 in
set_option maxHeartbeats 4000000 in
theorem lifted (os : Os) (started : os.Started) (H : Type) (enc : TypeId × Value → H) :
    ReturnsInHanded {} Try.checked os 9 .any (Rows.fnExactTxPagesSpec.pre6 enc Try.prog Try.f9 Rows.fnExactTxPagesRow.domain false) (Rows.fnExactTxPagesSpec.post enc Try.prog Try.f9 false true false false) := by
  refine returnsInHanded_of_change_sized (C := Try.checked) own started (by kernel_rfl) Try.func9
    (ChangeSpec.witness6 (enc := enc) (C := Try.checked) false ⟨#[], #[.int .i64 0, .int .i64 0, .slice none 0 0], []⟩ 8 (by kernel_rfl) (by kernel_rfl) (by kernel_rfl) (by kernel_rfl)) ?_
  intro W base args ds gs before hval0 hW hcnd hsz0 _
  have hval : ∀ (j : Nat) t v, Try.f9.params[j]? = some t → args[j]? = some v → Value.okWide Try.prog W .any base t v := hval0
  have hW' := hW
  obtain ⟨p, q, hA0, hV, rfl, hfz, hnd⟩ := hW
  have hA : DataW.TrodAll enc Try.prog W 0 (fun _ => true) true Try.f9.params.toList args.toList ds p := hA0
  rw [Try.params9] at hA hval
  obtain ⟨v0, vs0, d0, ds0, p0, q0, hargs, rfl, rfl, h0, r0⟩ := trodAll_cons hA
  obtain ⟨v1, vs1, d1, ds1, p1, q1, rfl, rfl, rfl, h1, r1⟩ := trodAll_cons r0
  obtain ⟨v2, vs2, d2, ds2, p2, q2, rfl, rfl, rfl, h2, r2⟩ := trodAll_cons r1
  obtain ⟨rfl, rfl, rfl⟩ := trodAll_nil r2
  obtain rfl : args = #[v0, v1, v2] := by cases args; simp_all
  obtain ⟨rfl, rfl⟩ := trodVars_none hV
  have k0 := h0
  have lt0 : ∀ x ∈ p0, x.block < W.heap.size := by obtain ⟨m, hm⟩ := k0; exact DataW.trod_lt m _ _ _ hm
  obtain ⟨fu0, hf0⟩ := h0
  obtain ⟨y0, K0, Y0⟩ := (opn_int Try.underlying3) H enc W 0 (fun _ => true) true fu0 _ _ hf0
  have Ec0 := K0
  obtain ⟨a0, rfl, _⟩ := open_int Try.underlying3 (hval 0 3 v0 rfl rfl) k0
  obtain rfl : y0 = a0 := by
    have z : [Value.int .i64 a0] = [Value.int .i64 y0] := Ec0
    have z2 := List.head_eq_of_cons_eq z
    injection z2 with z3 z4 <;> first | exact z4.symm | exact z3.symm
  have k1 := h1
  have lt1 : ∀ x ∈ p1, x.block < W.heap.size := by obtain ⟨m, hm⟩ := k1; exact DataW.trod_lt m _ _ _ hm
  obtain ⟨fu1, hf1⟩ := h1
  obtain ⟨y1, K1, Y1⟩ := (opn_int Try.underlying3) H enc W 0 (fun _ => true) true fu1 _ _ hf1
  have Ec1 := K1
  obtain ⟨a1, rfl, _⟩ := open_int Try.underlying3 (hval 1 3 v1 rfl rfl) k1
  obtain rfl : y1 = a1 := by
    have z : [Value.int .i64 a1] = [Value.int .i64 y1] := Ec1
    have z2 := List.head_eq_of_cons_eq z
    injection z2 with z3 z4 <;> first | exact z4.symm | exact z3.symm
  have k2 := h2
  have lt2 : ∀ x ∈ p2, x.block < W.heap.size := by obtain ⟨m, hm⟩ := k2; exact DataW.trod_lt m _ _ _ hm
  obtain ⟨fu2, hf2⟩ := h2
  obtain ⟨y2, K2, Y2⟩ := (opn_slice Try.underlying96 (by kernel_rfl) o160) H enc W 0 (fun _ => true) true fu2 _ _ hf2
  obtain ⟨a2, len2, cap2, rfl⟩ := okWide_slice Try.underlying96 (hval 2 96 v2 rfl rfl)
  obtain ⟨Ac2, Cc2, Ec2, Lc2, Gc2⟩ := K2
  have es2 : a2 = Ac2 ∧ len2 = y2.length ∧ cap2 = Cc2 := by simpa [Value.cells] using Ec2
  obtain ⟨rfl, rfl, rfl⟩ : Ac2 = a2 ∧ y2.length = len2 ∧ Cc2 = cap2 := ⟨es2.1.symm, es2.2.1.symm, es2.2.2.symm⟩
  clear es2
  obtain ⟨k, hp⟩ := Pure.FnExactTxPages y0 y1 y2 Y0 Y1 Y2
  clear hA0 hval0 hsz0
  refine (laws_FnExactTxPages.calls k y0 y1 Ac2 Cc2 y2 true ⟨rfl⟩ W Gc2 Lc2 hp).mono fun e W' ⟨he, bel0⟩ => ?_
  have bel : Below W.heap.size W W' := bel0
  subst he
  exact ⟨_, rfl, _, _, _, [], _, [], hW', trodAll_mk1 (shut_bool Try.underlying4 _), (trodAll_cons_mk (Below.trod laidOut (by kernel_rfl) (of_decide_eq_true (by kernel_rfl)) k0 bel lt0) (trodAll_cons_mk (Below.trod laidOut (by kernel_rfl) (of_decide_eq_true (by kernel_rfl)) k1 bel lt1) (trodAll_cons_mk (Below.trod laidOut (by kernel_rfl) (of_decide_eq_true (by kernel_rfl)) k2 bel lt2) trodAll_mk0))), rfl, bel.frame _, fun h => by cases h⟩
theorem over : Rows.fnExactTxPagesRow.holds Try.pinned (OpenSpec.ofChange Rows.fnExactTxPagesSpec) :=
  OpenClaim.holds_of_wide 9 Try.f9 rfl rfl rfl rfl rfl rfl rfl ⟨rfl, rfl, rfl, rfl, rfl⟩ rfl rfl rfl rfl rfl (by kernel_rfl) Try.func9 (by kernel_rfl)
    (of_decide_eq_true (by kernel_rfl)) (by unfold Func.isWrapper; first | (rw [if_pos (by decide +kernel)]; kernel_rfl) | (rw [if_neg (by decide +kernel)]; exact ⟨rfl, rfl⟩))
    (fun os started H enc _ => lifted os started H enc)
theorem proved : Rows.FnExactTxPagesSaid := over
#print axioms proved
end Go.Proofs.Ytdolplcbokioaaa.fnExactTxPages
namespace Go.Proofs.Ytdolplcbokioaaa
/-- The row, under a short name, for the claim. -/
theorem fnExactTxPages_holds : Rows.FnExactTxPagesSaid := fnExactTxPages.proved
end Go.Proofs.Ytdolplcbokioaaa
