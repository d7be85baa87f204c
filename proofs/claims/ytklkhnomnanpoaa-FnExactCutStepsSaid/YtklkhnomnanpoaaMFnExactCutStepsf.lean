/- FnExactCutSteps: functions of the translation as Lean functions with what their calls come to, plain lemmas on them, and, at the end, the row. Parts of one proof, merged by a program of this session; each part's own sentence stands at its head. -/
import Derived.Test.YtklkhnomnanpoaaRows
import Derived.WalkKit
import Derived.ProofKit
import Derived.OpenShut
import Derived.ShutString
import Derived.ChangeOld
import Derived.Below
import Derived.SizedLaws
import Derived.Test.YtklkhnomnanpoaaMFnExactCutStepse
set_option linter.unusedSimpArgs false
set_option linter.unusedVariables false
/- What a torn step leaves, and steps that are cut, each as one function; the program and the reference both tell it. -/
namespace Go.Proofs.Ytklkhnomnanpoaa.Pu
open Go.RowKit Go.Proofs.Ytklkhnomnanpoaa.PK Go.Proofs.YtklkhnomnanpoaaW.PrintWords
def tz : S101 := ⟨2, (⟨#[]⟩ : ByteArray)⟩
/-- Leaves of which the first i are torn. -/
def tornL (L : List S101) (i : Nat) : List S101 := List.replicate i tz ++ L.drop i
theorem tornL_set {L : List S101} {i : Nat} (hi : i < L.length) : (tornL L i).set i tz = tornL L (i + 1) := by
  unfold tornL
  rw [List.set_append, if_neg (by simp), List.length_replicate, Nat.sub_self, dropS z101 hi, List.set_cons_zero, List.replicate_succ', List.append_assoc]
  rfl
theorem tornL_len {L : List S101} {i : Nat} (hi : i ≤ L.length) : (tornL L i).length = L.length := by
  unfold tornL; rw [List.length_append, List.length_replicate, List.length_drop]; omega
/-- A flash of whose block b the first i leaves are torn. -/
def tornI (f : List S83) (b i : Nat) : List S83 := f.set b ⟨(f.getD b z83).f0, (f.getD b z83).f1, tornL (f.getD b z83).f2 i⟩
theorem getD_set_at {α : Type} {xs : List α} {i : Nat} {x z : α} (h : i < xs.length) : (xs.set i x).getD i z = x := by
  rw [List.getD_eq_getElem?_getD, List.getElem?_set_self h]; rfl
theorem tornI_get {f : List S83} {b i : Nat} (hb : b < f.length) : (tornI f b i).getD b z83 = ⟨(f.getD b z83).f0, (f.getD b z83).f1, tornL (f.getD b z83).f2 i⟩ := getD_set_at hb
theorem tornI_len (f : List S83) (b i : Nat) : (tornI f b i).length = f.length := List.length_set
theorem tornI_set {f : List S83} {b i : Nat} (hb : b < f.length) (hi : i < (f.getD b z83).f2.length) :
    (tornI f b i).set b ⟨((tornI f b i).getD b z83).f0, ((tornI f b i).getD b z83).f1, ((tornI f b i).getD b z83).f2.set i tz⟩ = tornI f b (i + 1) := by
  rw [tornI_get hb]
  show (tornI f b i).set b ⟨_, _, (tornL _ i).set i tz⟩ = _
  rw [tornL_set hi]
  unfold tornI
  rw [List.set_set]
theorem tornI_zero (f : List S83) (b : Nat) : tornI f b 0 = f := by
  unfold tornI tornL
  rw [List.replicate_zero, List.nil_append, List.drop_zero]
  apply List.ext_getElem?
  intro j
  rw [List.getElem?_set]
  split
  · rename_i h
    subst h
    split
    · rename_i h; rw [List.getD_eq_getElem?_getD, List.getElem?_eq_getElem h]; rfl
    · rename_i h; rw [List.getElem?_eq_none (by omega)]
  · rfl
def tearB (f : List S83) (b a : Int) (t : ByteArray) : List S83 := f.set b.toNat ⟨(f.getD b.toNat z83).f0, (f.getD b.toNat z83).f1, (f.getD b.toNat z83).f2.set a.toNat ⟨2, t.extract 0 ((wrap64 ((t.size : Int) / 2)) : Int).toNat⟩⟩
def tornB (f : List S83) (kd b a : Int) (t : ByteArray) : List S83 × Bool := if (doB f kd b a t).2 = true then (if kd = 1 then (tearB f b a t, true) else (tornI f b.toNat (f.getD b.toNat z83).f2.length, true)) else (f, false)
theorem do_use {f : List S83} {kd b a : Int} {t : ByteArray} (h : (doB f kd b a t).2 = true) : useB f b = true ∧ (kd = 1 → progOk f b a t = true) := by
  unfold doB programB wipeB at h
  by_cases h1 : kd = 1
  · rw [if_pos h1] at h
    by_cases h2 : progOk f b a t = true
    · refine ⟨?_, fun _ => h2⟩
      unfold progOk at h2
      simp only [Bool.and_eq_true] at h2
      exact h2.1
    · rw [if_neg h2] at h; cases h
  · rw [if_neg h1] at h
    by_cases h2 : kd = 2
    · rw [if_pos h2] at h
      by_cases h3 : wipeOk f b = true
      · refine ⟨?_, fun e => absurd e h1⟩
        unfold wipeOk at h3
        simp only [Bool.and_eq_true] at h3
        exact h3.1
      · rw [if_neg h3] at h; cases h
    · rw [if_neg h2] at h; cases h
theorem prog_of {f : List S83} {b a : Int} {t : ByteArray} (h : progOk f b a t = true) : 0 ≤ a ∧ a ≤ 3 ∧ t.size ≤ 120 := by
  unfold progOk at h
  simp only [Bool.and_eq_true, decide_eq_true_eq] at h
  exact ⟨h.2.1.1, h.2.1.2, by have := h.2.2.2.2; omega⟩
theorem iTorn_ev (f : List S83) (kd b a : Int) (t : ByteArray) (hn : f.length ≤ 1048576) (hk : ∀ x ∈ f, x.f2.length ≤ 1048576) : Ev (fun k => impl_Torment.f k f kd b a t) (tornB f kd b a t) := by
  unfold impl_Torment.f tornB
  refine ev_bind (iCopyF_ev f hn hk) (ev_bind (iDo_ev f kd b a t hn hk) ?_)
  by_cases h : (doB f kd b a t).2 = true
  · obtain ⟨hu, hp⟩ := do_use h
    obtain ⟨hf, u1, u2, u3, _⟩ := use_of hu
    have h4 := four_of hf u2
    simp only [if_pos h, if_pos u1, if_pos u3]
    by_cases h1 : kd = 1
    · obtain ⟨p1, p2, p3⟩ := prog_of (hp h1)
      have hw : wrap64 ((t.size : Int) / 2) = (t.size : Int) / 2 := w64 (by omega) (by omega)
      simp only [if_pos h1]
      rw [if_pos (by rw [hw]; omega), if_pos (by rw [hw]; omega), if_pos p1, if_pos (by rw [rdB_toNat]; omega)]
      exact Ev.now _
    · simp only [if_neg h1]
      have main : ∀ (d i : Nat), i + d = 4 → Ev (fun k => impl_Torment.l0 k ((f.getD b.toNat z83).f2.length : Int) (i : Int) kd b a t (tornI f b.toNat i)) (tornI f b.toNat 4, true) := by
        intro d
        induction d with
        | zero =>
          intro i hi
          obtain rfl : i = 4 := by omega
          exact ev_some fun k => by simp only [impl_Torment.l0]; rw [if_neg (by omega)]
        | succ d ih =>
          intro i hi
          refine Ev.step (fun k => ?_) (ih (i + 1) (by omega))
          have hl : (tornI f b.toNat i).length = f.length := tornI_len _ _ _
          have hg : ((tornI f b.toNat i).getD b.toNat z83).f2.length = 4 := by rw [tornI_get u2]; exact (tornL_len (by omega)).trans h4
          simp only [impl_Torment.l0]
          rw [if_pos (by omega), if_pos u1, if_pos (by omega), if_pos (by omega), if_pos (by rw [rdB_toNat]; omega), wsucc (n := 4) (by omega) (by omega), Int.toNat_natCast]
          exact congrArg _ (tornI_set u2 (by omega))
      have := main 4 0 rfl
      rw [tornI_zero] at this
      rw [h4]
      exact this
  · simp only [if_neg h]
    exact Ev.now _
theorem sTorn_ev (f : List S83) (kd b a : Int) (t : ByteArray) (hn : f.length ≤ 1048576) (hk : ∀ x ∈ f, x.f2.length ≤ 1048576) : Ev (fun k => spec_Torment.f k f kd b a t) (tornB f kd b a t) := by
  unfold spec_Torment.f tornB
  refine ev_bind (sDo_ev f kd b a t hn hk) (ev_bind (sCopyF_ev f hn hk) ?_)
  by_cases h : (doB f kd b a t).2 = true
  · obtain ⟨hu, hp⟩ := do_use h
    obtain ⟨hf, u1, u2, u3, _⟩ := use_of hu
    have h4 := four_of hf u2
    simp only [if_pos h]
    by_cases h1 : kd = 1
    · obtain ⟨p1, p2, p3⟩ := prog_of (hp h1)
      have hw : wrap64 ((t.size : Int) / 2) = (t.size : Int) / 2 := w64 (by omega) (by omega)
      simp only [if_pos h1, if_pos u1, if_pos u3]
      rw [if_pos (by rw [hw]; omega), if_pos (by rw [hw]; omega), if_pos p1, if_pos (by rw [rdB_toNat]; omega)]
      exact Ev.now _
    · simp only [if_neg h1]
      have main : ∀ (d i : Nat), i + d = 4 → Ev (fun k => spec_Torment.l0 k (i : Int) kd b a t (tornI f b.toNat i)) (tornI f b.toNat 4, true) := by
        intro d
        induction d with
        | zero =>
          intro i hi
          obtain rfl : i = 4 := by omega
          have hl : (tornI f b.toNat 4).length = f.length := tornI_len _ _ _
          have hg : ((tornI f b.toNat 4).getD b.toNat z83).f2.length = 4 := by rw [tornI_get u2]; exact (tornL_len (by omega)).trans h4
          exact ev_some fun k => by simp only [spec_Torment.l0]; rw [if_pos u1, if_pos (by omega), if_neg (by rw [rdB_toNat]; omega)]
        | succ d ih =>
          intro i hi
          refine Ev.step (fun k => ?_) (ih (i + 1) (by omega))
          have hl : (tornI f b.toNat i).length = f.length := tornI_len _ _ _
          have hg : ((tornI f b.toNat i).getD b.toNat z83).f2.length = 4 := by rw [tornI_get u2]; exact (tornL_len (by omega)).trans h4
          simp only [spec_Torment.l0]
          rw [if_pos u1, if_pos (by omega), if_pos (by rw [rdB_toNat]; omega), if_pos (by omega), wsucc (n := 4) (by omega) (by omega), Int.toNat_natCast]
          exact congrArg _ (tornI_set u2 (by omega))
      have := main 4 0 rfl
      rw [tornI_zero] at this
      rw [h4]
      exact this
  · simp only [if_neg h]
    exact Ev.now _
theorem tornB_le {f : List S83} (kd b a : Int) (t : ByteArray) (hn : f.length ≤ 1048576) (hk : ∀ x ∈ f, x.f2.length ≤ 1048576) : (tornB f kd b a t).1.length ≤ 1048576 ∧ ∀ x ∈ (tornB f kd b a t).1, x.f2.length ≤ 1048576 := by
  have hset : ∀ (i : Nat) (x : S83), x.f2.length ≤ 1048576 → (f.set i x).length ≤ 1048576 ∧ ∀ y ∈ f.set i x, y.f2.length ≤ 1048576 := fun i x hx => ⟨by rw [List.length_set]; exact hn, fun y hy => by
    rcases List.mem_or_eq_of_mem_set hy with h | h
    · exact hk y h
    · rw [h]; exact hx⟩
  have hz : ∀ i, (f.getD i z83).f2.length ≤ 1048576 := fun i => by
    by_cases hi : i < f.length
    · exact hk _ (getD_mem' hi)
    · rw [List.getD_eq_getElem?_getD, List.getElem?_eq_none (by omega)]; exact Nat.zero_le _
  unfold tornB tearB tornI
  split
  · split
    · exact hset _ _ (by rw [List.length_set]; exact hz _)
    · exact hset _ _ (by rw [tornL_len (Nat.le_refl _)]; exact hz _)
  · exact ⟨hn, hk⟩
/-- Steps that are cut. -/
def cutB (f : List S83) (L : List S56) (w : Int) (tn : Bool) : List S83 × Bool :=
  if 0 ≤ w ∧ w ≤ (L.length : Int) then
    (if (runB (L.take w.toNat) (L.take w.toNat).length 0 f).2 < w then (f, false)
     else if tn = true ∧ ¬ w = (L.length : Int) then
       (if (tornB (runB (L.take w.toNat) (L.take w.toNat).length 0 f).1 (L.getD w.toNat z56).f0 (L.getD w.toNat z56).f1 (L.getD w.toNat z56).f2 (L.getD w.toNat z56).f3).2 = true
        then ((tornB (runB (L.take w.toNat) (L.take w.toNat).length 0 f).1 (L.getD w.toNat z56).f0 (L.getD w.toNat z56).f1 (L.getD w.toNat z56).f2 (L.getD w.toNat z56).f3).1, true) else (f, false))
     else ((runB (L.take w.toNat) (L.take w.toNat).length 0 f).1, true))
  else (f, false)
theorem rdS_toNat (L : List S56) (b : Int) : rd_T56 L b = L.getD b.toNat z56 := rfl
theorem iCut_ev (f : List S83) (L : List S56) (w : Int) (tn : Bool) (hn : f.length ≤ 1048576) (hk : ∀ x ∈ f, x.f2.length ≤ 1048576) (hL : L.length ≤ 1048576) : Ev (fun k => impl_CutSteps.f k f L w tn) (cutB f L w tn) := by
  unfold impl_CutSteps.f cutB
  rw [inF_eq]
  simp only [Option.bind_some]
  by_cases h : 0 ≤ w ∧ w ≤ (L.length : Int)
  · have hl : (L.take w.toNat).length ≤ 1048576 := by rw [List.length_take]; omega
    have hr := iSteps_ev f (L.take w.toNat) hn hk hl
    obtain ⟨b1, b2⟩ := runB_le (L.take w.toNat) (L.take w.toNat).length 0 f hn hk
    simp only [if_pos h, if_pos (decide_eq_true h), if_pos h.1, if_pos h.2]
    refine ev_bind hr ?_
    revert b1 b2
    generalize runB (L.take w.toNat) (L.take w.toNat).length 0 f = P
    intro b1 b2
    by_cases h2 : P.2 < w
    · simp only [if_pos h2]; exact ev_bind (iCopyF_ev f hn hk) (Ev.now _)
    simp only [if_neg h2]
    have main : ∀ q : Bool, Ev (fun k => impl_CutSteps.j0 k L w q f P.1) (if q = true then (P.1, true) else if w < (L.length : Int) then (if (tornB P.1 (L.getD w.toNat z56).f0 (L.getD w.toNat z56).f1 (L.getD w.toNat z56).f2 (L.getD w.toNat z56).f3).2 = true then ((tornB P.1 (L.getD w.toNat z56).f0 (L.getD w.toNat z56).f1 (L.getD w.toNat z56).f2 (L.getD w.toNat z56).f3).1, true) else (f, false)) else (P.1, true)) ∨ ¬ (q = true ∨ w < (L.length : Int)) := by
      intro q
      by_cases hq : q = true
      · refine .inl (ev_some fun k => ?_)
        simp only [impl_CutSteps.j0, if_pos hq]
      · by_cases hw : w < (L.length : Int)
        · refine .inl ?_
          simp only [if_neg hq, if_pos hw]
          refine Ev.step (f := fun k => (impl_Torment.f k P.1 (L.getD w.toNat z56).f0 (L.getD w.toNat z56).f1 (L.getD w.toNat z56).f2 (L.getD w.toNat z56).f3).bind fun bt => if bt.2 = true then some (bt.1, true) else (impl_copyFlash.f k f).bind fun t => some (t, false)) (fun k => ?_) (ev_bind (iTorn_ev P.1 _ _ _ _ b1 b2) ?_)
          · simp only [impl_CutSteps.j0, rdS_toNat]
            rw [if_neg hq, if_pos h.1, if_pos hw]
          · generalize tornB P.1 (L.getD w.toNat z56).f0 (L.getD w.toNat z56).f1 (L.getD w.toNat z56).f2 (L.getD w.toNat z56).f3 = T
            by_cases hT : T.2 = true
            · simp only [if_pos hT]; exact Ev.now _
            · simp only [if_neg hT]; exact ev_bind (iCopyF_ev f hn hk) (Ev.now _)
        · exact .inr fun h => h.elim hq hw
    by_cases ht : tn = true
    · simp only [if_pos ht]
      by_cases he : w = (L.length : Int)
      · rw [if_neg (fun h => h.2 he), beq_iff_eq.2 he]
        rcases main true with h3 | h3
        · simpa using h3
        · exact absurd (.inl rfl) h3
      · have hlt : w < (L.length : Int) := by omega
        rw [if_pos ⟨ht, he⟩, beq_eq_false_iff_ne.2 he]
        rcases main false with h3 | h3
        · simp only [Bool.false_eq_true, if_false, if_pos hlt] at h3; exact h3
        · exact absurd (.inr hlt) h3
    · simp only [if_neg ht]
      rw [if_neg (fun h => ht h.1)]
      rcases main true with h3 | h3
      · simpa using h3
      · exact absurd (.inl rfl) h3
  · simp only [if_neg h, if_neg (show ¬ decide (0 ≤ w ∧ w ≤ (L.length : Int)) = true by rw [decide_eq_true_eq]; exact h)]
    exact ev_bind (iCopyF_ev f hn hk) (Ev.now _)
theorem sCut_ev (f : List S83) (L : List S56) (w : Int) (tn : Bool) (hn : f.length ≤ 1048576) (hk : ∀ x ∈ f, x.f2.length ≤ 1048576) (hL : L.length ≤ 1048576) : Ev (fun k => spec_CutSteps.f k f L w tn) (cutB f L w tn) := by
  unfold spec_CutSteps.f cutB
  rw [l01InF_eq]
  simp only [Option.bind_some]
  by_cases h : 0 ≤ w ∧ w ≤ (L.length : Int)
  · have hl : (L.take w.toNat).length ≤ 1048576 := by rw [List.length_take]; omega
    have hr := sSteps_ev f (L.take w.toNat) hn hk hl
    obtain ⟨b1, b2⟩ := runB_le (L.take w.toNat) (L.take w.toNat).length 0 f hn hk
    simp only [if_pos h, if_pos (decide_eq_true h), if_pos h.1, if_pos h.2]
    refine ev_bind hr ?_
    revert b1 b2
    generalize runB (L.take w.toNat) (L.take w.toNat).length 0 f = P
    intro b1 b2
    by_cases h2 : P.2 < w
    · simp only [if_pos h2]; exact ev_bind (sCopyF_ev f hn hk) (Ev.now _)
    simp only [if_neg h2]
    have main : ∀ q : Bool, Ev (fun k => spec_CutSteps.j0 k L w q f P.1) (if q = true then (P.1, true) else if w < (L.length : Int) then (if (tornB P.1 (L.getD w.toNat z56).f0 (L.getD w.toNat z56).f1 (L.getD w.toNat z56).f2 (L.getD w.toNat z56).f3).2 = true then ((tornB P.1 (L.getD w.toNat z56).f0 (L.getD w.toNat z56).f1 (L.getD w.toNat z56).f2 (L.getD w.toNat z56).f3).1, true) else (f, false)) else (P.1, true)) ∨ ¬ (q = true ∨ w < (L.length : Int)) := by
      intro q
      by_cases hq : q = true
      · refine .inl (ev_some fun k => ?_)
        simp only [spec_CutSteps.j0, if_pos hq]
      · by_cases hw : w < (L.length : Int)
        · refine .inl ?_
          simp only [if_neg hq, if_pos hw]
          refine Ev.step (f := fun k => (spec_Torment.f k P.1 (L.getD w.toNat z56).f0 (L.getD w.toNat z56).f1 (L.getD w.toNat z56).f2 (L.getD w.toNat z56).f3).bind fun bt => if bt.2 = true then some (bt.1, true) else (spec_l05Copy.f k f).bind fun t => some (t, false)) (fun k => ?_) (ev_bind (sTorn_ev P.1 _ _ _ _ b1 b2) ?_)
          · simp only [spec_CutSteps.j0, rdS_toNat]
            rw [if_neg hq, if_pos h.1, if_pos hw]
          · generalize tornB P.1 (L.getD w.toNat z56).f0 (L.getD w.toNat z56).f1 (L.getD w.toNat z56).f2 (L.getD w.toNat z56).f3 = T
            by_cases hT : T.2 = true
            · simp only [if_pos hT]; exact Ev.now _
            · simp only [if_neg hT]; exact ev_bind (sCopyF_ev f hn hk) (Ev.now _)
        · exact .inr fun h => h.elim hq hw
    by_cases ht : tn = true
    · simp only [if_pos ht]
      by_cases he : w = (L.length : Int)
      · rw [if_neg (fun h => h.2 he), beq_iff_eq.2 he]
        rcases main true with h3 | h3
        · simpa using h3
        · exact absurd (.inl rfl) h3
      · have hlt : w < (L.length : Int) := by omega
        rw [if_pos ⟨ht, he⟩, beq_eq_false_iff_ne.2 he]
        rcases main false with h3 | h3
        · simp only [Bool.false_eq_true, if_false, if_pos hlt] at h3; exact h3
        · exact absurd (.inr hlt) h3
    · simp only [if_neg ht]
      rw [if_neg (fun h => ht h.1)]
      rcases main true with h3 | h3
      · simpa using h3
      · exact absurd (.inl rfl) h3
  · simp only [if_neg h, if_neg (show ¬ decide (0 ≤ w ∧ w ≤ (L.length : Int)) = true by rw [decide_eq_true_eq]; exact h)]
    exact ev_bind (sCopyF_ev f hn hk) (Ev.now _)
theorem cutB_le {f : List S83} (L : List S56) (w : Int) (tn : Bool) (hn : f.length ≤ 1048576) (hk : ∀ x ∈ f, x.f2.length ≤ 1048576) : (cutB f L w tn).1.length ≤ 1048576 ∧ ∀ x ∈ (cutB f L w tn).1, x.f2.length ≤ 1048576 := by
  obtain ⟨b1, b2⟩ := runB_le (L.take w.toNat) (L.take w.toNat).length 0 f hn hk
  have ht := tornB_le (L.getD w.toNat z56).f0 (L.getD w.toNat z56).f1 (L.getD w.toNat z56).f2 (L.getD w.toNat z56).f3 b1 b2
  unfold cutB
  split
  · split
    · exact ⟨hn, hk⟩
    · split
      · split
        · exact ht
        · exact ⟨hn, hk⟩
      · exact ⟨b1, b2⟩
  · exact ⟨hn, hk⟩
end Go.Proofs.Ytklkhnomnanpoaa.Pu

/- A mark's text. -/
namespace Go.Proofs.Ytklkhnomnanpoaa.Pu
open Go.RowKit Go.Proofs.Ytklkhnomnanpoaa.PK Go.Proofs.YtklkhnomnanpoaaW.PrintWords
theorem strOne (n : Int) : (strOfNums [n]).size = 1 := by simp [strOfNums, ByteArray.size]
/-- A mark's text is there. -/
theorem markText_ev (n : Int) (h1 : n ≤ 4611686018427387904) : ∃ t, Ev (fun k => laws_markText.f k n) t := by
  by_cases h : n ≤ 0
  · exact ⟨⟨#[109, 48]⟩, by unfold laws_markText.f; simp only [if_pos h]; exact Ev.now _⟩
  · have main : ∀ (d : Nat) (x : Int) (s : ByteArray), 0 ≤ x → x ≤ d → x ≤ 4611686018427387904 → s.size + d ≤ 4611686018427387905 → ∃ t, Ev (fun k => laws_markText.l0 k x s) t := by
      intro d
      induction d using Nat.strongRecOn with
      | _ d ih =>
        intro x s hx hd hx2 hs
        by_cases hz : x > 0
        · have hq : Int.tdiv x 10 = x / 10 := Int.tdiv_eq_ediv_of_nonneg hx
          obtain ⟨t, ht⟩ := ih (d - 1) (by omega) (x / 10) ((strOfNums [(wrap64 (48 + (Int.tmod x 10))) % 256]) ++ s) (by omega) (by omega) (by omega) (by rw [ByteArray.size_append, strOne]; omega)
          refine ⟨t, Ev.step (fun k => ?_) ht⟩
          simp only [laws_markText.l0]
          rw [if_pos hz]
          simp only [Option.bind_some]
          rw [if_pos (by rw [strOne]; omega), hq, w64 (by omega) (by omega)]
        · exact ⟨_, ev_some fun k => by
            simp only [laws_markText.l0]
            rw [if_neg hz, if_pos (by omega)]⟩
    obtain ⟨t, ht⟩ := main n.toNat n ⟨#[]⟩ (by omega) (by omega) h1 (by show 0 + _ ≤ _; omega)
    exact ⟨t, by unfold laws_markText.f; simp only [if_neg h]; exact ht⟩
end Go.Proofs.Ytklkhnomnanpoaa.Pu

/- A row of steps as data: what a law on it begins with; its marks. -/
namespace Go.Proofs.Ytklkhnomnanpoaa.Pu
open Go.RowKit Go.Proofs.Ytklkhnomnanpoaa.PK Go.Proofs.YtklkhnomnanpoaaW.PrintWords
theorem rdLS_nat (l : List S47) (i : Nat) : rd_T47 l (i : Int) = l.getD i z47 := rfl
def toSt (x : S47) : S56 := ⟨x.f0, x.f1, x.f2, x.f3⟩
theorem toStepS_ev (l : List S47) (h : l.length ≤ 1048576) : Ev (fun k => laws_toStepS.f k l) (l.map toSt) := by
  have h1 := ev_fill_all (E := fun _ i => (laws_toStep.f (rd_T47 l i).f0 (rd_T47 l i).f1 (rd_T47 l i).f2 (rd_T47 l i).f3).bind fun bt => some (⟨bt.1, bt.2.1, bt.2.2.1, bt.2.2.2⟩ : S56)) (l := l) (z := z47) (g := toSt) (xs := List.replicate l.length z56) (L := fun k xs i => laws_toStepS.l0 k l xs i) (by omega) (fun k xs i => by
    simp only [laws_toStepS.l0, Option.bind_assoc, Option.bind_some]) (fun i hi => by rw [rdLS_nat]; exact Ev.now _) (by simp)
  refine ev_ext (fun k => ?_) h1
  unfold laws_toStepS.f
  rw [if_pos (by omega), if_pos (by simp; omega)]
  simp
theorem eqStepS_ev (l : List S56) (hn : l.length ≤ 9223372036854775807) : Ev (fun k => laws_eqStepS.f k l l) true := by
  have h1 := ev_all (n := l.length) (m := l.length) (L := fun k i => laws_eqStepS.l0 k l l i) (E := fun _ i => laws_eqStep.f (rd_T56 l i).f0 (rd_T56 l i).f1 (rd_T56 l i).f2 (rd_T56 l i).f3 (rd_T56 l i).f0 (rd_T56 l i).f1 (rd_T56 l i).f2 (rd_T56 l i).f3) hn (Nat.le_refl _) (fun k i => by simp only [laws_eqStepS.l0]) (fun i _ => ev_const (by unfold laws_eqStep.f; simp only [if_true])) l.length 0 (by omega)
  unfold laws_eqStepS.f
  simp only [if_true]
  exact h1
theorem szStep_eq (a b c : Int) (t : ByteArray) (n : Int) (h0 : 0 ≤ n) (h1 : n ≤ 1048576) (hn : t.size ≤ 9223372036854775807) : ∃ r, laws_szStep.f a b c t n = some r ∧ r ≤ n := by
  unfold laws_szStep.f
  rw [w64 (x := n - (t.size : Int)) (by omega) (by omega)]
  by_cases h : n - (t.size : Int) < 0
  · rw [if_pos h]; exact ⟨-1, rfl, by omega⟩
  · rw [if_neg h]; exact ⟨_, rfl, by omega⟩
theorem szStepS_ev (l : List S47) (a : Int) (h0 : 0 ≤ a) (h1 : a ≤ 1048576) (hn : l.length ≤ 9223372036854775807) (hk : ∀ x ∈ l, x.f3.size ≤ 9223372036854775807) :
    ∃ r, Ev (fun k => laws_szStepS.f k l a) r ∧ r ≤ a ∧ (0 ≤ r → (l.length : Int) ≤ a) := by
  by_cases h : a - (l.length : Int) < 0
  · refine ⟨-1, ⟨0, fun k _ => ?_⟩, by omega, fun h2 => by omega⟩
    show laws_szStepS.f k l a = _
    unfold laws_szStepS.f
    rw [w64 (by omega) (by omega), if_pos h]
  · obtain ⟨r, hr, hra, hq⟩ := ev_size (n := l.length) (L := fun k a i => laws_szStepS.l0 k l a i) (E := fun _ i a => laws_szStep.f (rd_T47 l i).f0 (rd_T47 l i).f1 (rd_T47 l i).f2 (rd_T47 l i).f3 a) (P := fun i => True) hn (fun k a i => by simp only [laws_szStepS.l0])
      (fun i a hi h2 h3 => by
        have hm : l.getD i z47 ∈ l := getD_mem' hi
        obtain ⟨t, ht, hta⟩ := szStep_eq (rd_T47 l i).f0 (rd_T47 l i).f1 (rd_T47 l i).f2 (rd_T47 l i).f3 a h2 h3 (by rw [rdLS_nat]; exact hk _ hm)
        exact ⟨t, ev_const ht, hta, fun _ => trivial⟩) l.length 0 (a - (l.length : Int)) (by omega) (by omega) (by omega)
    refine ⟨r, ev_ext (fun k => ?_) hr, by omega, fun h2 => by omega⟩
    unfold laws_szStepS.f
    rw [w64 (by omega) (by omega), if_neg h]; rfl
theorem mark_steps1 (l : List S56) (a : Int) (hn : l.length ≤ 1048576) (ha : 0 ≤ a) (hM : a ≤ 281474976710656) : ∃ a' l', Ev (fun k => laws_markStepS.f k l a) (a', l') ∧ a ≤ a' := by
  obtain ⟨a', l', h1, h2, h3⟩ := ev_mark1 z56 (L := fun k xs a i => laws_markStepS.l0 k xs a i)
    (fun k x a => (laws_markText.f k (wrap64 (wrap64 (wrap64 (a + 1) + 1) + 1))).bind fun t => some (wrap64 (wrap64 (wrap64 (wrap64 (a + 1) + 1) + 1) + 1), (⟨a, wrap64 (a + 1), wrap64 (wrap64 (a + 1) + 1), t⟩ : S56))) 4
    (fun k xs a i hi _ _ => by
      have e1 : ∀ v, rd_T56 (xs.set i v) (i : Int) = v := fun v => getD_set_self hi
      simp only [laws_markStepS.l0]
      rw [if_pos (by omega), if_pos (by omega)]
      simp only [Option.bind_some, Int.toNat_natCast, e1, List.set_set, Option.bind_assoc])
    (fun k xs a i hi => by
      simp only [laws_markStepS.l0]
      rw [if_neg (by omega)])
    (by omega)
    (fun x a h0 h1 => by
      have e1 : wrap64 (wrap64 (wrap64 (a + 1) + 1) + 1) = a + 3 := by rw [w64 (x := a + 1) (by omega) (by omega), w64 (x := a + 1 + 1) (by omega) (by omega), w64 (x := a + 1 + 1 + 1) (by omega) (by omega)]; omega
      have e2 : wrap64 (a + 3 + 1) = a + 4 := by rw [w64 (by omega) (by omega)]; omega
      obtain ⟨t, ht⟩ := markText_ev (a + 3) (by omega)
      refine ⟨a + 4, ⟨a, wrap64 (a + 1), wrap64 (wrap64 (a + 1) + 1), t⟩, ?_, by omega, by omega⟩
      simp only [e1, e2]
      exact ev_bind ht (Ev.now _))
    l.length 0 l a (by omega) (by omega) ha (by omega)
  exact ⟨a', l', h1, h2⟩
end Go.Proofs.Ytklkhnomnanpoaa.Pu

/- Marks of a flash. -/
namespace Go.Proofs.Ytklkhnomnanpoaa.Pu
open Go.RowKit Go.Proofs.Ytklkhnomnanpoaa.PK Go.Proofs.YtklkhnomnanpoaaW.PrintWords
theorem mark_leafs (l : List S101) (a : Int) (hn : l.length ≤ 1048576) (ha : 0 ≤ a) (hM : a + l.length * 2 ≤ 4611686018427387904) :
    ∃ a' l', l'.length = l.length ∧ Ev (fun k => laws_markLeafS.f k l a) (a', l') ∧ Ev (fun k => laws_heldLeafS.f k l' a) a' ∧ a ≤ a' ∧ a' ≤ a + l.length * 2 := by
  obtain ⟨a', l', h1, _, h2, h3, h4, h5⟩ := ev_mark z101 (L := fun k xs a i => laws_markLeafS.l0 k xs a i) (Hd := fun k xs a i => laws_heldLeafS.l0 k xs a i)
    (fun k x a => (laws_markText.f k (wrap64 (a + 1))).bind fun t => some (wrap64 (wrap64 (a + 1) + 1), (⟨a, t⟩ : S101))) (fun k x a => if x.f0 = a then (laws_markText.f k (wrap64 (a + 1))).bind fun t => if x.f1.toList = t.toList then some (wrap64 (wrap64 (a + 1) + 1)) else some (-1) else some (-1)) 2 (fun x => True)
    (fun k xs a i hi _ _ => by
      have e1 : rd_T101 (xs.set i (⟨a, (rd_T101 xs (i : Int)).f1⟩ : S101)) (i : Int) = ⟨a, (rd_T101 xs (i : Int)).f1⟩ := getD_set_self hi
      simp only [laws_markLeafS.l0]
      rw [if_pos (by omega), if_pos (by omega)]
      simp only [Option.bind_some, Int.toNat_natCast, e1, List.set_set, Option.bind_assoc])
    (fun k xs a i hi => by
      simp only [laws_markLeafS.l0]
      rw [if_neg (by omega)])
    (fun k xs a i hi h0 h1 => by
      simp only [laws_heldLeafS.l0]
      rw [if_pos (by omega), if_pos (by omega)]
      show (if (xs.getD i z101).f0 = a then (laws_markText.f k (wrap64 (a + 1))).bind (fun t => if (xs.getD i z101).f1.toList = t.toList then _ else _) else _) = _
      have e2 : wrap64 (wrap64 (a + 1) + 1) = a + 2 := by rw [w64 (x := a + 1) (by omega) (by omega), w64 (by omega) (by omega)]; omega
      by_cases h : (xs.getD i z101).f0 = a
      · simp only [if_pos h, Option.bind_assoc]
        congr 1
        funext t
        by_cases h2 : (xs.getD i z101).f1.toList = t.toList
        · simp only [if_pos h2, e2, Option.bind_some]
          rw [if_neg (by omega)]
        · simp only [if_neg h2, Option.bind_some]
          rw [if_pos (by omega)]
      · simp only [if_neg h, Option.bind_some]
        rw [if_pos (by omega)])
    (fun k xs a i hi => by
      simp only [laws_heldLeafS.l0]
      rw [if_neg (by omega)])
    (by omega)
    (fun x a _ h0 h1 => by
      obtain ⟨t, ht⟩ := markText_ev (a + 1) (by omega)
      have e1 : wrap64 (a + 1) = a + 1 := w64 (by omega) (by omega)
      have e2 : wrap64 (a + 1 + 1) = a + 2 := by rw [w64 (by omega) (by omega)]; omega
      refine ⟨a + 2, ⟨a, t⟩, ?_, ?_, by omega, by omega⟩
      · simp only [e1, e2]
        exact ev_bind ht (Ev.now _)
      · simp only [e1, e2, if_true]
        exact ev_bind ht (by simp only [if_true]; exact Ev.now _))
    l.length 0 l a (by omega) (by omega) (fun _ _ _ => trivial) ha (by omega)
  exact ⟨a', l', h1, h2, h3, h4, h5⟩
theorem mark_blocks (l : List S83) (a : Int) (hn : l.length ≤ 1048576) (hk : ∀ x ∈ l, x.f2.length ≤ 1048576) (ha : 0 ≤ a) (hM : a ≤ 1099511627776) :
    ∃ a' l', l'.length = l.length ∧ Ev (fun k => laws_markBlockS.f k l a) (a', l') ∧ Ev (fun k => laws_heldBlockS.f k l' a) a' ∧ a ≤ a' ∧ a' ≤ a + l.length * 2097154 := by
  obtain ⟨a', l', h1, _, h2, h3, h4, h5⟩ := ev_mark z83 (L := fun k xs a i => laws_markBlockS.l0 k xs a i) (Hd := fun k xs a i => laws_heldBlockS.l0 k xs a i)
    (fun k x a => (laws_markLeafS.f k x.f2 (wrap64 (wrap64 (a + 1) + 1))).bind fun b => some (b.1, (⟨Int.tmod a 3 == 0, wrap64 (a + 1), b.2⟩ : S83))) (fun k x a => if (x.f0 != (Int.tmod a 3 == 0)) = true then some (-1) else if x.f1 = wrap64 (a + 1) then laws_heldLeafS.f k x.f2 (wrap64 (wrap64 (a + 1) + 1)) else some (-1)) 2097154 (fun x => x.f2.length ≤ 1048576)
    (fun k xs a i hi _ _ => by
      have e1 : rd_T83 (xs.set i (⟨Int.tmod a 3 == 0, (rd_T83 xs (i : Int)).f1, (rd_T83 xs (i : Int)).f2⟩ : S83)) (i : Int) = ⟨Int.tmod a 3 == 0, (rd_T83 xs (i : Int)).f1, (rd_T83 xs (i : Int)).f2⟩ := getD_set_self hi
      have e2 : rd_T83 (xs.set i (⟨Int.tmod a 3 == 0, wrap64 (a + 1), (rd_T83 xs (i : Int)).f2⟩ : S83)) (i : Int) = ⟨Int.tmod a 3 == 0, wrap64 (a + 1), (rd_T83 xs (i : Int)).f2⟩ := getD_set_self hi
      simp only [laws_markBlockS.l0]
      rw [if_pos (by omega), if_pos (by omega)]
      simp only [Option.bind_some, Int.toNat_natCast, e1, e2, List.set_set, Option.bind_assoc]
      rfl)
    (fun k xs a i hi => by
      simp only [laws_markBlockS.l0]
      rw [if_neg (by omega)])
    (fun k xs a i hi h0 h1 => by
      simp only [laws_heldBlockS.l0]
      rw [if_pos (by omega), if_pos (by omega)]
      show (if ((xs.getD i z83).f0 != (Int.tmod a 3 == 0)) = true then some (-1) else if (xs.getD i z83).f1 = wrap64 (a + 1) then (laws_heldLeafS.f k (xs.getD i z83).f2 (wrap64 (wrap64 (a + 1) + 1))).bind _ else _) = _
      by_cases h : ((xs.getD i z83).f0 != (Int.tmod a 3 == 0)) = true
      · simp only [if_pos h]; rfl
      · simp only [if_neg h]
        by_cases h2 : (xs.getD i z83).f1 = wrap64 (a + 1)
        · simp only [if_pos h2]
        · simp only [if_neg h2]; rfl)
    (fun k xs a i hi => by
      simp only [laws_heldBlockS.l0]
      rw [if_neg (by omega)])
    (by omega)
    (fun x a hx h0 h1 => by
      obtain ⟨a1, l1, g1, g2, g3, g4, g5⟩ := mark_leafs x.f2 (a + 2) (by omega) (by omega) (by omega)
      have e1 : wrap64 (a + 1) = a + 1 := w64 (by omega) (by omega)
      have e2 : wrap64 (a + 1 + 1) = a + 2 := by rw [w64 (by omega) (by omega)]; omega
      refine ⟨a1, ⟨Int.tmod a 3 == 0, a + 1, l1⟩, ?_, ?_, by omega, by omega⟩
      · simp only [e1, e2]
        exact ev_bind g2 (Ev.now _)
      · simp only [e1, e2, bne_self_eq_false, if_true]
        exact g3)
    l.length 0 l a (by omega) (by omega) (fun j _ hj => hk _ (by rw [List.getD_eq_getElem?_getD, List.getElem?_eq_getElem hj]; exact List.getElem_mem hj)) ha (by omega)
  exact ⟨a', l', h1, h2, h3, h4, h5⟩
theorem mark_flash (l : List S83) (a : Int) (hn : l.length ≤ 1048576) (hk : ∀ x ∈ l, x.f2.length ≤ 1048576) (ha : 0 ≤ a) (hM : a ≤ 1099511627776) :
    ∃ a' l', l'.length = l.length ∧ Ev (fun k => laws_markFlash.f k l a) (a', l') ∧ Ev (fun k => laws_heldFlash.f k l' a) a' ∧ a ≤ a' ∧ a' ≤ a + l.length * 2097154 := by
  obtain ⟨a', l', h1, h2, h3, h4, h5⟩ := mark_blocks l a hn hk ha hM
  refine ⟨a', l', h1, ?_, ?_, h4, h5⟩
  · unfold laws_markFlash.f; exact ev_bind h2 (Ev.now _)
  · unfold laws_heldFlash.f; exact ev_bind h3 (by simp only [if_neg (show ¬ a' < 0 by omega)]; exact Ev.now _)
end Go.Proofs.Ytklkhnomnanpoaa.Pu

/- FnExactCutSteps: steps that are cut come to the same by the program and by the reference, and the program's flash is its own. -/
namespace Go.Proofs.Ytklkhnomnanpoaa.Pure
open Go.RowKit Go.Proofs.Ytklkhnomnanpoaa.PK Go.Proofs.YtklkhnomnanpoaaW.PrintWords Go.Proofs.Ytklkhnomnanpoaa.Pu
theorem FnExactCutSteps : ∀ (l0_0 : List S129) (l1 : List S47) (a2 : Int) (a3 : Bool), (l0_0.length ≤ maxLen ∧ ∀ x_l0_0 ∈ l0_0, (True ∧ (Lit.int .i64 x_l0_0.f1).wf = true ∧ (x_l0_0.f2.length ≤ maxLen ∧ ∀ x_x_l0_0f2 ∈ x_l0_0.f2, ((Lit.int .i64 x_x_l0_0f2.f0).wf = true ∧ x_x_l0_0f2.f1.size ≤ maxLen)))) → (l1.length ≤ maxLen ∧ ∀ x_l1 ∈ l1, ((Lit.int .i64 x_l1.f0).wf = true ∧ (Lit.int .i64 x_l1.f1).wf = true ∧ (Lit.int .i64 x_l1.f2).wf = true ∧ x_l1.f3.size ≤ maxLen)) → (Lit.int .i64 a2).wf = true → ∃ k, laws_FnExactCutSteps.f k l0_0 l1 a2 a3 = some true := by
  intro l L w tn ⟨hl, hx⟩ ⟨hL, hy⟩ hw
  refine Ev.rounds (g := fun k => laws_FnExactCutSteps.f k l L w tn) ?_
  obtain ⟨r, hr, hq⟩ := flash_start hl (fun x h => ⟨(hx x h).2.2.1, fun y hy => ((hx x h).2.2.2 y hy).2⟩)
  unfold maxLen at hl hx hL hy
  obtain ⟨r', hr', hra, _⟩ := szFlash_ev l 1048576 (by omega) (by omega) (by omega) (fun x h => ⟨by have := (hx x h).2.2.1; omega, fun y hy => by have := ((hx x h).2.2.2 y hy).2; omega⟩)
  obtain rfl := ev_uniq hr hr'
  unfold laws_FnExactCutSteps.f
  refine ev_bind hr ?_
  by_cases h : r < 0
  · simp only [if_pos h]; exact Ev.now _
  simp only [if_neg h]
  obtain ⟨s, hs, hsa, hsq⟩ := szStepS_ev L r (by omega) (by omega) (by omega) (fun x h => by have := (hy x h).2.2.2; omega)
  refine ev_bind hs ?_
  by_cases h2 : s < 0
  · simp only [if_pos h2]; exact Ev.now _
  simp only [if_neg h2]
  have hLn := hsq (by omega)
  have hL2 : L.length ≤ 1048576 := by omega
  have hlm : (L.map toSt).length = L.length := List.length_map _
  obtain ⟨hto, heq, hn, hm⟩ := hq (by omega)
  have hk : ∀ x ∈ toFl l, x.f2.length ≤ 1048576 := fun x hx => (hm x hx).1
  have hts := toStepS_ev L hL2
  have eqs := eqStepS_ev (L.map toSt) (by omega)
  have hsp := sCut_ev (toFl l) (L.map toSt) w tn hn hk (by omega)
  have him := iCut_ev (toFl l) (L.map toSt) w tn hn hk (by omega)
  obtain ⟨b1, b2⟩ := cutB_le (L.map toSt) w tn (f := toFl l) hn hk
  revert hsp him b1 b2
  generalize cutB (toFl l) (L.map toSt) w tn = P
  intro hsp him b1 b2
  have eqp := eqFlash_ev P.1 b1 b2
  obtain ⟨ka, A', _, hmk, _, hk0, hka⟩ := mark_flash (toFl l) 1 hn hk (by omega) (by omega)
  obtain ⟨kb, B', hmb, hkb⟩ := mark_steps1 (L.map toSt) ka (by omega) (by omega) (by omega)
  obtain ⟨m, g', _, hm1, hm2, hm0, _⟩ := mark_flash P.1 1 b1 b2 (by omega) (by omega)
  refine ev_bind hto (ev_bind hts (ev_bind hsp (ev_bind hto (ev_bind hts (ev_bind him (ev_bind eqp ?_))))))
  simp only [if_true]
  refine ev_bind hto (ev_bind heq ?_)
  simp only [if_true]
  refine ev_bind hts (ev_bind eqs ?_)
  simp only [if_true]
  refine ev_bind hmk (ev_bind hmb (ev_bind eqp ?_))
  simp only [if_true, if_neg (show ¬ kb < 0 by omega)]
  refine ev_bind hm1 (ev_bind hm2 ?_)
  simp only [if_true, if_neg (show ¬ m < 0 by omega)]
  refine ev_bind hto (ev_bind hts (ev_bind him (ev_bind eqp ?_)))
  simp only [if_true]
  refine ev_bind hm2 ?_
  simp only [if_true, if_neg (show ¬ m < 0 by omega)]
  exact Ev.now _
end Go.Proofs.Ytklkhnomnanpoaa.Pure

/- FnExactCutSteps: whatever the input, the law returns true, and its arguments read as they did. The row, out of the law's own walk and the pure statement. -/
namespace Go.Proofs.Ytklkhnomnanpoaa.fnExactCutSteps
open Go.ChangeShapes Go.WideShapes Go.ChangeAt Go.RowKit Go.Proofs.Ytklkhnomnanpoaa.Open Go.Proofs.YtklkhnomnanpoaaW.PrintWords Go.Proofs.Ytklkhnomnanpoaa.PK
open Go.ChangeMaps (open_string shut_string)
theorem own : ownKnob Try.prog.godebug = none := by kernel_rfl
theorem laidOut : laidOutB Try.prog = true := by kernel_rfl
set_option maxRecDepth 100000 in
theorem o176 : Opn Try.prog 176 k176 (fun x => ((Lit.int .i64 x.f0).wf = true ∧ x.f1.size ≤ maxLen)) := opn_struct (d := (Kd.pair (Kd.int .i64) Kd.string)) (wf := fun (y : Int × ByteArray) => ((Lit.int .i64 y.1).wf = true ∧ y.2.size ≤ maxLen)) (fun x : S176 => (x.f0, x.f1)) (fun y => (⟨y.1, y.2⟩ : S176)) (fun _ => rfl) Try.underlying176 (by kernel_rfl) (opnF_cons rfl (by kernel_rfl) (opn_int Try.underlying3) (opnF_one rfl (by kernel_rfl) (opn_string Try.underlying9)))
set_option maxRecDepth 100000 in
theorem o129 : Opn Try.prog 129 k129 (fun x => (True ∧ (Lit.int .i64 x.f1).wf = true ∧ (x.f2.length ≤ maxLen ∧ ∀ x_xf2 ∈ x.f2, ((Lit.int .i64 x_xf2.f0).wf = true ∧ x_xf2.f1.size ≤ maxLen)))) := opn_struct (d := (Kd.pair Kd.bool (Kd.pair (Kd.int .i64) (Kd.slice 176 k176)))) (wf := fun (y : Bool × Int × (List S176)) => (True ∧ ((Lit.int .i64 y.2.1).wf = true ∧ (y.2.2.length ≤ maxLen ∧ ∀ x_y22 ∈ y.2.2, ((Lit.int .i64 x_y22.f0).wf = true ∧ x_y22.f1.size ≤ maxLen))))) (fun x : S129 => (x.f0, x.f1, x.f2)) (fun y => (⟨y.1, y.2.1, y.2.2⟩ : S129)) (fun _ => rfl) Try.underlying129 (by kernel_rfl) (opnF_cons rfl (by kernel_rfl) (opn_bool Try.underlying4) (opnF_cons rfl (by kernel_rfl) (opn_int Try.underlying3) (opnF_one rfl (by kernel_rfl) (opn_slice Try.underlying127 (by kernel_rfl) o176))))
set_option maxRecDepth 100000 in
theorem p45 : Opn Try.prog 45 (Kd.slice 129 k129) (fun (y : (List S129)) => (y.length ≤ maxLen ∧ ∀ x_y ∈ y, (True ∧ (Lit.int .i64 x_y.f1).wf = true ∧ (x_y.f2.length ≤ maxLen ∧ ∀ x_x_yf2 ∈ x_y.f2, ((Lit.int .i64 x_x_yf2.f0).wf = true ∧ x_x_yf2.f1.size ≤ maxLen))))) := opn_tuple Try.underlying45 (by kernel_rfl) (opnF_one rfl (by kernel_rfl) (opn_slice Try.underlying43 (by kernel_rfl) o129))
set_option maxRecDepth 100000 in
theorem o47 : Opn Try.prog 47 k47 (fun x => ((Lit.int .i64 x.f0).wf = true ∧ (Lit.int .i64 x.f1).wf = true ∧ (Lit.int .i64 x.f2).wf = true ∧ x.f3.size ≤ maxLen)) := opn_struct (d := (Kd.pair (Kd.int .i64) (Kd.pair (Kd.int .i64) (Kd.pair (Kd.int .i64) Kd.string)))) (wf := fun (y : Int × Int × Int × ByteArray) => ((Lit.int .i64 y.1).wf = true ∧ ((Lit.int .i64 y.2.1).wf = true ∧ ((Lit.int .i64 y.2.2.1).wf = true ∧ y.2.2.2.size ≤ maxLen)))) (fun x : S47 => (x.f0, x.f1, x.f2, x.f3)) (fun y => (⟨y.1, y.2.1, y.2.2.1, y.2.2.2⟩ : S47)) (fun _ => rfl) Try.underlying47 (by kernel_rfl) (opnF_cons rfl (by kernel_rfl) (opn_int Try.underlying3) (opnF_cons rfl (by kernel_rfl) (opn_int Try.underlying3) (opnF_cons rfl (by kernel_rfl) (opn_int Try.underlying3) (opnF_one rfl (by kernel_rfl) (opn_string Try.underlying9)))))
set_option maxRecDepth 100000 in
set_option maxHeartbeats 4000000 in
theorem lifted (os : Os) (started : os.Started) (H : Type) (enc : TypeId × Value → H) :
    ReturnsInHanded {} Try.checked os 5 .any (Rows.fnExactCutStepsSpec.pre6 enc Try.prog Try.f5 Rows.fnExactCutStepsRow.domain false) (Rows.fnExactCutStepsSpec.post enc Try.prog Try.f5 false true false false) := by
  refine returnsInHanded_of_change_sized (C := Try.checked) own started (by kernel_rfl) Try.func5
    (ChangeSpec.witness6 (enc := enc) (C := Try.checked) false ⟨#[], #[.agg #[.slice none 0 0], .slice none 0 0, .int .i64 0, .bool false], []⟩ 8 (by kernel_rfl) (by kernel_rfl) (by kernel_rfl) (by kernel_rfl)) ?_
  intro W base args ds gs before hval0 hW hcnd hsz0 _
  have hval : ∀ (j : Nat) t v, Try.f5.params[j]? = some t → args[j]? = some v → Value.okWide Try.prog W .any base t v := hval0
  have hW' := hW
  obtain ⟨p, q, hA0, hV, rfl, hfz, hnd⟩ := hW
  have hA : DataW.TrodAll enc Try.prog W 0 (fun _ => true) true Try.f5.params.toList args.toList ds p := hA0
  rw [Try.params5] at hA hval
  obtain ⟨v0, vs0, d0, ds0, p0, q0, hargs, rfl, rfl, h0, r0⟩ := trodAll_cons hA
  obtain ⟨v1, vs1, d1, ds1, p1, q1, rfl, rfl, rfl, h1, r1⟩ := trodAll_cons r0
  obtain ⟨v2, vs2, d2, ds2, p2, q2, rfl, rfl, rfl, h2, r2⟩ := trodAll_cons r1
  obtain ⟨v3, vs3, d3, ds3, p3, q3, rfl, rfl, rfl, h3, r3⟩ := trodAll_cons r2
  obtain ⟨rfl, rfl, rfl⟩ := trodAll_nil r3
  obtain rfl : args = #[v0, v1, v2, v3] := by cases args; simp_all
  obtain ⟨rfl, rfl⟩ := trodVars_none hV
  have k0 := h0
  have lt0 : ∀ x ∈ p0, x.block < W.heap.size := by obtain ⟨m, hm⟩ := k0; exact DataW.trod_lt m _ _ _ hm
  obtain ⟨fu0, hf0⟩ := h0
  obtain ⟨y0, K0, Y0⟩ := p45 H enc W 0 (fun _ => true) true fu0 _ _ hf0
  obtain ⟨cs0, rfl, sz0⟩ := okWide_struct Try.underlying45 (hval 0 45 v0 rfl rfl)
  obtain ⟨Ac0, Cc0, Ec0, Lc0, Gc0⟩ := K0
  have E0 : cs0 = #[.slice Ac0 y0.length Cc0] := by
    apply Array.toList_inj.1
    have z : cs0.toList = _ := Ec0
    exact z
  subst E0
  have k1 := h1
  have lt1 : ∀ x ∈ p1, x.block < W.heap.size := by obtain ⟨m, hm⟩ := k1; exact DataW.trod_lt m _ _ _ hm
  obtain ⟨fu1, hf1⟩ := h1
  obtain ⟨y1, K1, Y1⟩ := (opn_slice Try.underlying61 (by kernel_rfl) o47) H enc W 0 (fun _ => true) true fu1 _ _ hf1
  obtain ⟨a1, len1, cap1, rfl⟩ := okWide_slice Try.underlying61 (hval 1 61 v1 rfl rfl)
  obtain ⟨Ac1, Cc1, Ec1, Lc1, Gc1⟩ := K1
  have es1 : a1 = Ac1 ∧ len1 = y1.length ∧ cap1 = Cc1 := by simpa [Value.cells] using Ec1
  obtain ⟨rfl, rfl, rfl⟩ : Ac1 = a1 ∧ y1.length = len1 ∧ Cc1 = cap1 := ⟨es1.1.symm, es1.2.1.symm, es1.2.2.symm⟩
  clear es1
  have k2 := h2
  have lt2 : ∀ x ∈ p2, x.block < W.heap.size := by obtain ⟨m, hm⟩ := k2; exact DataW.trod_lt m _ _ _ hm
  obtain ⟨fu2, hf2⟩ := h2
  obtain ⟨y2, K2, Y2⟩ := (opn_int Try.underlying3) H enc W 0 (fun _ => true) true fu2 _ _ hf2
  have Ec2 := K2
  obtain ⟨a2, rfl, _⟩ := open_int Try.underlying3 (hval 2 3 v2 rfl rfl) k2
  obtain rfl : y2 = a2 := by
    have z : [Value.int .i64 a2] = [Value.int .i64 y2] := Ec2
    have z2 := List.head_eq_of_cons_eq z
    first | (injection z2 with z3 z4; first | exact z4.symm | exact z3.symm) | (injection z2 with z3; exact z3.symm)
  have k3 := h3
  have lt3 : ∀ x ∈ p3, x.block < W.heap.size := by obtain ⟨m, hm⟩ := k3; exact DataW.trod_lt m _ _ _ hm
  obtain ⟨fu3, hf3⟩ := h3
  obtain ⟨y3, K3, Y3⟩ := (opn_bool Try.underlying4) H enc W 0 (fun _ => true) true fu3 _ _ hf3
  have Ec3 := K3
  obtain ⟨a3, rfl, _⟩ := open_bool Try.underlying4 (hval 3 4 v3 rfl rfl) k3
  obtain rfl : y3 = a3 := by
    have z : [Value.bool a3] = [Value.bool y3] := Ec3
    have z2 := List.head_eq_of_cons_eq z
    first | (injection z2 with z3 z4; first | exact z4.symm | exact z3.symm) | (injection z2 with z3; exact z3.symm)
  obtain ⟨k, hp⟩ := Pure.FnExactCutSteps y0 y1 y2 y3 Y0 Y1 Y2
  clear hA0 hval0 hsz0
  refine (laws_FnExactCutSteps.calls k Ac0 Cc0 y0 Ac1 Cc1 y1 y2 y3 true ⟨rfl⟩ W Gc0 Lc0 Gc1 Lc1 hp).mono fun e W' ⟨he, bel0⟩ => ?_
  have bel : Below W.heap.size W W' := bel0
  subst he
  exact ⟨_, rfl, _, _, _, [], _, [], hW', trodAll_mk1 (shut_bool Try.underlying4 _), (trodAll_cons_mk (Below.trod laidOut (by kernel_rfl) (of_decide_eq_true (by kernel_rfl)) k0 bel lt0) (trodAll_cons_mk (Below.trod laidOut (by kernel_rfl) (of_decide_eq_true (by kernel_rfl)) k1 bel lt1) (trodAll_cons_mk (Below.trod laidOut (by kernel_rfl) (of_decide_eq_true (by kernel_rfl)) k2 bel lt2) (trodAll_cons_mk (Below.trod laidOut (by kernel_rfl) (of_decide_eq_true (by kernel_rfl)) k3 bel lt3) trodAll_mk0)))), rfl, bel.frame _, fun h => by cases h⟩
theorem over : Rows.fnExactCutStepsRow.holds Try.pinned (OpenSpec.ofChange Rows.fnExactCutStepsSpec) :=
  OpenClaim.holds_of_wide 5 Try.f5 rfl rfl rfl rfl rfl rfl rfl ⟨rfl, rfl, rfl, rfl, rfl⟩ rfl rfl rfl rfl rfl (by kernel_rfl) Try.func5 (by kernel_rfl)
    (of_decide_eq_true (by kernel_rfl)) (by unfold Func.isWrapper; first | (rw [if_pos (by decide +kernel)]; kernel_rfl) | (rw [if_neg (by decide +kernel)]; exact ⟨rfl, rfl⟩))
    (fun os started H enc _ => lifted os started H enc)
theorem proved : Rows.FnExactCutStepsSaid := over
#print axioms proved
end Go.Proofs.Ytklkhnomnanpoaa.fnExactCutSteps
namespace Go.Proofs.Ytklkhnomnanpoaa
/-- The row, under a short name, for the claim. -/
theorem fnExactCutSteps_holds : Rows.FnExactCutStepsSaid := fnExactCutSteps.proved
end Go.Proofs.Ytklkhnomnanpoaa
