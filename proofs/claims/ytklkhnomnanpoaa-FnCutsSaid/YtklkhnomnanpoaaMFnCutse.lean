/- FnCuts: functions of the translation as Lean functions with what their calls come to, plain lemmas on them, and, at the end, the row. Parts of one proof, merged by a program of this session; each part's own sentence stands at its head. -/
import Derived.Below
import Derived.Test.YtklkhnomnanpoaaRows
import Derived.WalkKit
import Derived.ProofKit
import Derived.OpenShut
import Derived.ShutString
import Derived.ChangeOld
import Derived.SizedLaws
import Derived.ChangeSlices
import Derived.Test.YtklkhnomnanpoaaMFnCutsd
/- The law FnSteps: drawn steps done in two parts are as done at once. -/
namespace Go.Proofs.Ytklkhnomnanpoaa.M2.Mp
set_option linter.unusedVariables false
set_option linter.unusedSimpArgs false
open Go.RowKit Go.Proofs.Ytklkhnomnanpoaa.PK Go.Proofs.YtklkhnomnanpoaaW.PrintWords Go.Proofs.Ytklkhnomnanpoaa.Pu

theorem runB_range (L : List S56) : ∀ (d i : Nat) (f : List S83), i + d = L.length → (i : Int) ≤ (runB L d i f).2 ∧ (runB L d i f).2 ≤ L.length := by
  intro d
  induction d with
  | zero => intro i f h; show (i : Int) ≤ (L.length : Int) ∧ (L.length : Int) ≤ L.length; omega
  | succ d ih =>
    intro i f h
    unfold runB
    split
    · have := ih (i + 1) (doB f (L.getD i z56).f0 (L.getD i z56).f1 (L.getD i z56).f2 (L.getD i z56).f3).1 (by omega); omega
    · show (i : Int) ≤ (i : Int) ∧ (i : Int) ≤ L.length; omega
theorem runB_shift {L M : List S56} : ∀ (d i j : Nat) (f : List S83), i + d = L.length → j + d = M.length → (∀ q, q < d → M.getD (j + q) z56 = L.getD (i + q) z56) →
    runB M d j f = ((runB L d i f).1, (runB L d i f).2 - i + j) := by
  intro d
  induction d with
  | zero =>
    intro i j f hi hj _
    unfold runB
    congr 1
    omega
  | succ d ih =>
    intro i j f hi hj hq
    have h0 := hq 0 (by omega)
    simp only [Nat.add_zero] at h0
    unfold runB
    rw [h0]
    split
    · rw [ih (i + 1) (j + 1) _ (by omega) (by omega) (fun q hqd => by
        have := hq (q + 1) (by omega)
        rw [show j + (q + 1) = j + 1 + q by omega, show i + (q + 1) = i + 1 + q by omega] at this
        exact this)]
      congr 1
      omega
    · congr 1
      omega
theorem runB_split {L M : List S56} : ∀ (e d i j : Nat) (f : List S83), i + d = L.length → j + e = M.length → e ≤ d → (∀ q, q < e → M.getD (j + q) z56 = L.getD (i + q) z56) →
    (i : Int) + e ≤ (runB L d i f).2 → ∃ b, runB M e j f = (b, ((j + e : Nat) : Int)) ∧ runB L d i f = runB L (d - e) (i + e) b := by
  intro e
  induction e with
  | zero =>
    intro d i j f hi hj _ _ _
    exact ⟨f, by unfold runB; congr 1; omega, rfl⟩
  | succ e ih =>
    intro d i j f hi hj hed hq hn
    cases d with
    | zero => omega
    | succ d =>
      have h0 := hq 0 (by omega)
      simp only [Nat.add_zero] at h0
      unfold runB at hn
      split at hn
      · rename_i hok
        obtain ⟨b, h1, h2⟩ := ih d (i + 1) (j + 1) (doB f (L.getD i z56).f0 (L.getD i z56).f1 (L.getD i z56).f2 (L.getD i z56).f3).1 (by omega) (by omega) (by omega) (fun q hqd => by
          have := hq (q + 1) (by omega)
          rw [show j + (q + 1) = j + 1 + q by omega, show i + (q + 1) = i + 1 + q by omega] at this
          exact this) (by omega)
        refine ⟨b, ?_, ?_⟩
        · show runB M (e + 1) j f = _
          unfold runB
          rw [h0, if_pos hok, h1]
          congr 1; omega
        · have e1 : runB L (d + 1) i f = runB L d (i + 1) (doB f (L.getD i z56).f0 (L.getD i z56).f1 (L.getD i z56).f2 (L.getD i z56).f3).1 := by
            show (if _ then _ else _) = _
            rw [if_pos hok]
          rw [e1, h2]
          congr 1 <;> omega
      · have hn : (i : Int) + ((e + 1 : Nat) : Int) ≤ (i : Int) := hn
        omega
theorem small_run {f : List S83} (L : List S56) (d i : Nat) (h : Small f) : Small (runB L d i f).1 := runB_le L d i f h.1 h.2
theorem getD_take {α : Type} (l : List α) (n q : Nat) (z : α) (h : q < n) : (l.take n).getD q z = l.getD q z := by
  simp [List.getD_eq_getElem?_getD, List.getElem?_take, h]
theorem getD_drop {α : Type} (l : List α) (n q : Nat) (z : α) : (l.drop n).getD q z = l.getD (n + q) z := by
  simp [List.getD_eq_getElem?_getD, List.getElem?_drop]
theorem fnStepsX (b : List Int) : EvX (fun k => laws_FnSteps.f k b) (fun r => r = true) := by
  simp only [laws_FnSteps.f]
  refine evx_bind (bigX b) fun t ht => ?_
  refine evx_ite (fun _ => evx_some rfl) (fun hbig => ?_)
  have hlen : b.length ≤ 1048576 := by
    rw [ht] at hbig
    simp only [decide_eq_true_eq] at hbig
    omega
  have hb : Cb b := by show b.length ≤ _; omega
  refine evx_bind (drawStepsX b hb) fun ⟨f, L⟩ ⟨hs, hL⟩ => ?_
  dsimp only at *
  refine evx_bind (iStepsX hs (by omega)) fun t3 e3 => ?_
  refine evx_bind (sStepsX hs (by omega)) fun t4 e4 => ?_
  subst e3
  subst e4
  have hr := runB_range L L.length 0 f (by omega)
  refine evx_pos rfl ?_
  refine evx_bind (sameX (small_run L L.length 0 hs)) fun t5 e5 => ?_
  refine evx_pos e5 (evx_neg (by omega) ?_)
  refine evx_bind (placesX b hb) fun p ⟨hp, hp2⟩ => ?_
  have hn1 : M2.w64 ((runB L L.length 0 f).2 + 1) = (runB L L.length 0 f).2 + 1 := m64i (by omega) (by omega)
  have hp0 : 0 ≤ rd_T3 p 0 := (hp2 _ (by
    show p.getD 0 0 ∈ p
    exact getD_mem' (by omega))).1
  obtain ⟨k, hk⟩ : ∃ k : Nat, Int.tmod (rd_T3 p 0) ((runB L L.length 0 f).2 + 1) = (k : Int) := ⟨(Int.tmod (rd_T3 p 0) ((runB L L.length 0 f).2 + 1)).toNat, by
    have := Int.tmod_nonneg ((runB L L.length 0 f).2 + 1) hp0; omega⟩
  have hkn : (k : Int) < (runB L L.length 0 f).2 + 1 := by rw [← hk]; exact Int.tmod_lt_of_pos _ (by omega)
  simp only [hn1, hk, Int.toNat_natCast]
  refine evx_pos (by omega) (evx_neg (by omega) (evx_pos (by omega) (evx_pos (by omega) ?_)))
  have hM : ((L.drop 0).take (k - 0)).length = k := by simp; omega
  obtain ⟨c, h1, h2⟩ := runB_split (L := L) (M := (L.drop 0).take (k - 0)) k L.length 0 0 f (by omega) (by omega) (by omega) (fun q hq => by
    simp only [Nat.zero_add, List.drop_zero, Nat.sub_zero]; exact getD_take L k q _ hq) (by omega)
  refine evx_bind (iStepsX hs (by omega)) fun t7 e7 => ?_
  rw [hM, h1] at e7
  subst e7
  have hc : Small c := by
    have := small_run ((L.drop 0).take (k - 0)) k 0 hs
    rw [h1] at this; exact this
  refine evx_pos (by omega) (evx_pos (by omega) ?_)
  have hM2 : ((L.drop k).take (L.length - k)).length = L.length - k := by simp
  refine evx_bind (iStepsX hc (by omega)) fun t8 e8 => ?_
  rw [hM2] at e8
  have h3 := runB_shift (L := L) (M := (L.drop k).take (L.length - k)) (L.length - k) (0 + k) 0 c (by omega) (by omega) (fun q hq => by
    rw [Nat.zero_add, Nat.zero_add, getD_take _ _ _ _ hq, getD_drop])
  rw [← h2] at h3
  rw [h3] at e8
  subst e8
  refine evx_pos (by simp) (evx_pos ?_ ?_)
  · rw [m64i (by omega) (by omega)]; simp only; omega
  · refine evx_bind (sameX (small_run L L.length 0 hs)) fun t9 e9 => ?_
    exact evx_some e9
end Go.Proofs.Ytklkhnomnanpoaa.M2.Mp
namespace Go.Proofs.Ytklkhnomnanpoaa.Pure
open Go.Proofs.Ytklkhnomnanpoaa.M2
theorem FnSteps (l : List Int) (_ : ∀ n ∈ l, (Go.Lit.int .u8 n).wf = true) : ∃ k, laws_FnSteps.f k l = some true := Mp.evx_out (Mp.fnStepsX l)
end Go.Proofs.Ytklkhnomnanpoaa.Pure

/- What a torn step leaves, and steps that are cut, each as one function; the program and the reference both tell it. -/
namespace Go.Proofs.Ytklkhnomnanpoaa.Pu
set_option linter.unusedVariables false
set_option linter.unusedSimpArgs false
open Go.RowKit Go.Proofs.Ytklkhnomnanpoaa.PK Go.Proofs.YtklkhnomnanpoaaW.PrintWords

def tz : S101 := ⟨2, (⟨#[]⟩ : ByteArray)⟩
/-- Leaves of which the first i are torn. -/
def tornL (L : List S101) (i : Nat) : List S101 := List.replicate i tz ++ L.drop i
theorem tornL_set {L : List S101} {i : Nat} (hi : i < L.length) : (tornL L i).set i tz = tornL L (i + 1) := by
  unfold tornL
  rw [List.set_append, if_neg (by simp), List.length_replicate, Nat.sub_self, dropS z101 hi, List.set_cons_zero, List.replicate_succ', List.append_assoc]
  rfl
theorem tornL_len {L : List S101} {i : Nat} (hi : i ≤ L.length) : (tornL L i).length = L.length := by
  unfold tornL; rw [List.length_append, List.length_replicate, List.length_drop]; omega
/-- A flash of whose block b the first i leaves are torn. -/
def tornI (f : List S83) (b i : Nat) : List S83 := f.set b ⟨(f.getD b z83).f0, (f.getD b z83).f1, tornL (f.getD b z83).f2 i⟩
theorem getD_set_at {α : Type} {xs : List α} {i : Nat} {x z : α} (h : i < xs.length) : (xs.set i x).getD i z = x := by
  rw [List.getD_eq_getElem?_getD, List.getElem?_set_self h]; rfl
theorem tornI_get {f : List S83} {b i : Nat} (hb : b < f.length) : (tornI f b i).getD b z83 = ⟨(f.getD b z83).f0, (f.getD b z83).f1, tornL (f.getD b z83).f2 i⟩ := getD_set_at hb
theorem tornI_len (f : List S83) (b i : Nat) : (tornI f b i).length = f.length := List.length_set
theorem tornI_set {f : List S83} {b i : Nat} (hb : b < f.length) (hi : i < (f.getD b z83).f2.length) :
    (tornI f b i).set b ⟨((tornI f b i).getD b z83).f0, ((tornI f b i).getD b z83).f1, ((tornI f b i).getD b z83).f2.set i tz⟩ = tornI f b (i + 1) := by
  rw [tornI_get hb]
  show (tornI f b i).set b ⟨_, _, (tornL _ i).set i tz⟩ = _
  rw [tornL_set hi]
  unfold tornI
  rw [List.set_set]
theorem tornI_zero (f : List S83) (b : Nat) : tornI f b 0 = f := by
  unfold tornI tornL
  rw [List.replicate_zero, List.nil_append, List.drop_zero]
  apply List.ext_getElem?
  intro j
  rw [List.getElem?_set]
  split
  · rename_i h
    subst h
    split
    · rename_i h; rw [List.getD_eq_getElem?_getD, List.getElem?_eq_getElem h]; rfl
    · rename_i h; rw [List.getElem?_eq_none (by omega)]
  · rfl
def tearB (f : List S83) (b a : Int) (t : ByteArray) : List S83 := f.set b.toNat ⟨(f.getD b.toNat z83).f0, (f.getD b.toNat z83).f1, (f.getD b.toNat z83).f2.set a.toNat ⟨2, t.extract 0 ((wrap64 ((t.size : Int) / 2)) : Int).toNat⟩⟩
def tornB (f : List S83) (kd b a : Int) (t : ByteArray) : List S83 × Bool := if (doB f kd b a t).2 = true then (if kd = 1 then (tearB f b a t, true) else (tornI f b.toNat (f.getD b.toNat z83).f2.length, true)) else (f, false)
theorem do_use {f : List S83} {kd b a : Int} {t : ByteArray} (h : (doB f kd b a t).2 = true) : useB f b = true ∧ (kd = 1 → progOk f b a t = true) := by
  unfold doB programB wipeB at h
  by_cases h1 : kd = 1
  · rw [if_pos h1] at h
    by_cases h2 : progOk f b a t = true
    · refine ⟨?_, fun _ => h2⟩
      unfold progOk at h2
      simp only [Bool.and_eq_true] at h2
      exact h2.1
    · rw [if_neg h2] at h; cases h
  · rw [if_neg h1] at h
    by_cases h2 : kd = 2
    · rw [if_pos h2] at h
      by_cases h3 : wipeOk f b = true
      · refine ⟨?_, fun e => absurd e h1⟩
        unfold wipeOk at h3
        simp only [Bool.and_eq_true] at h3
        exact h3.1
      · rw [if_neg h3] at h; cases h
    · rw [if_neg h2] at h; cases h
theorem prog_of {f : List S83} {b a : Int} {t : ByteArray} (h : progOk f b a t = true) : 0 ≤ a ∧ a ≤ 3 ∧ t.size ≤ 120 := by
  unfold progOk at h
  simp only [Bool.and_eq_true, decide_eq_true_eq] at h
  exact ⟨h.2.1.1, h.2.1.2, by have := h.2.2.2.2; omega⟩
theorem iTorn_ev (f : List S83) (kd b a : Int) (t : ByteArray) (hn : f.length ≤ 1048576) (hk : ∀ x ∈ f, x.f2.length ≤ 1048576) : Ev (fun k => impl_Torment.f k f kd b a t) (tornB f kd b a t) := by
  unfold impl_Torment.f tornB
  refine ev_bind (iCopyF_ev f hn hk) (ev_bind (iDo_ev f kd b a t hn hk) ?_)
  by_cases h : (doB f kd b a t).2 = true
  · obtain ⟨hu, hp⟩ := do_use h
    obtain ⟨hf, u1, u2, u3, _⟩ := use_of hu
    have h4 := four_of hf u2
    simp only [if_pos h, if_pos u1, if_pos u3]
    by_cases h1 : kd = 1
    · obtain ⟨p1, p2, p3⟩ := prog_of (hp h1)
      have hw : wrap64 ((t.size : Int) / 2) = (t.size : Int) / 2 := w64 (by omega) (by omega)
      simp only [if_pos h1]
      rw [if_pos (by rw [hw]; omega), if_pos (by rw [hw]; omega), if_pos p1, if_pos (by rw [rdB_toNat]; omega)]
      exact Ev.now _
    · simp only [if_neg h1]
      have main : ∀ (d i : Nat), i + d = 4 → Ev (fun k => impl_Torment.l0 k ((f.getD b.toNat z83).f2.length : Int) (i : Int) kd b a t (tornI f b.toNat i)) (tornI f b.toNat 4, true) := by
        intro d
        induction d with
        | zero =>
          intro i hi
          obtain rfl : i = 4 := by omega
          exact ev_some fun k => by simp only [impl_Torment.l0]; rw [if_neg (by omega)]
        | succ d ih =>
          intro i hi
          refine Ev.step (fun k => ?_) (ih (i + 1) (by omega))
          have hl : (tornI f b.toNat i).length = f.length := tornI_len _ _ _
          have hg : ((tornI f b.toNat i).getD b.toNat z83).f2.length = 4 := by rw [tornI_get u2]; exact (tornL_len (by omega)).trans h4
          simp only [impl_Torment.l0]
          rw [if_pos (by omega), if_pos u1, if_pos (by omega), if_pos (by omega), if_pos (by rw [rdB_toNat]; omega), wsucc (n := 4) (by omega) (by omega), Int.toNat_natCast]
          exact congrArg _ (tornI_set u2 (by omega))
      have := main 4 0 rfl
      rw [tornI_zero] at this
      rw [h4]
      exact this
  · simp only [if_neg h]
    exact Ev.now _
theorem sTorn_ev (f : List S83) (kd b a : Int) (t : ByteArray) (hn : f.length ≤ 1048576) (hk : ∀ x ∈ f, x.f2.length ≤ 1048576) : Ev (fun k => spec_Torment.f k f kd b a t) (tornB f kd b a t) := by
  unfold spec_Torment.f tornB
  refine ev_bind (sDo_ev f kd b a t hn hk) (ev_bind (sCopyF_ev f hn hk) ?_)
  by_cases h : (doB f kd b a t).2 = true
  · obtain ⟨hu, hp⟩ := do_use h
    obtain ⟨hf, u1, u2, u3, _⟩ := use_of hu
    have h4 := four_of hf u2
    simp only [if_pos h]
    by_cases h1 : kd = 1
    · obtain ⟨p1, p2, p3⟩ := prog_of (hp h1)
      have hw : wrap64 ((t.size : Int) / 2) = (t.size : Int) / 2 := w64 (by omega) (by omega)
      simp only [if_pos h1, if_pos u1, if_pos u3]
      rw [if_pos (by rw [hw]; omega), if_pos (by rw [hw]; omega), if_pos p1, if_pos (by rw [rdB_toNat]; omega)]
      exact Ev.now _
    · simp only [if_neg h1]
      have main : ∀ (d i : Nat), i + d = 4 → Ev (fun k => spec_Torment.l0 k (i : Int) kd b a t (tornI f b.toNat i)) (tornI f b.toNat 4, true) := by
        intro d
        induction d with
        | zero =>
          intro i hi
          obtain rfl : i = 4 := by omega
          have hl : (tornI f b.toNat 4).length = f.length := tornI_len _ _ _
          have hg : ((tornI f b.toNat 4).getD b.toNat z83).f2.length = 4 := by rw [tornI_get u2]; exact (tornL_len (by omega)).trans h4
          exact ev_some fun k => by simp only [spec_Torment.l0]; rw [if_pos u1, if_pos (by omega), if_neg (by rw [rdB_toNat]; omega)]
        | succ d ih =>
          intro i hi
          refine Ev.step (fun k => ?_) (ih (i + 1) (by omega))
          have hl : (tornI f b.toNat i).length = f.length := tornI_len _ _ _
          have hg : ((tornI f b.toNat i).getD b.toNat z83).f2.length = 4 := by rw [tornI_get u2]; exact (tornL_len (by omega)).trans h4
          simp only [spec_Torment.l0]
          rw [if_pos u1, if_pos (by omega), if_pos (by rw [rdB_toNat]; omega), if_pos (by omega), wsucc (n := 4) (by omega) (by omega), Int.toNat_natCast]
          exact congrArg _ (tornI_set u2 (by omega))
      have := main 4 0 rfl
      rw [tornI_zero] at this
      rw [h4]
      exact this
  · simp only [if_neg h]
    exact Ev.now _
theorem tornB_le {f : List S83} (kd b a : Int) (t : ByteArray) (hn : f.length ≤ 1048576) (hk : ∀ x ∈ f, x.f2.length ≤ 1048576) : (tornB f kd b a t).1.length ≤ 1048576 ∧ ∀ x ∈ (tornB f kd b a t).1, x.f2.length ≤ 1048576 := by
  have hset : ∀ (i : Nat) (x : S83), x.f2.length ≤ 1048576 → (f.set i x).length ≤ 1048576 ∧ ∀ y ∈ f.set i x, y.f2.length ≤ 1048576 := fun i x hx => ⟨by rw [List.length_set]; exact hn, fun y hy => by
    rcases List.mem_or_eq_of_mem_set hy with h | h
    · exact hk y h
    · rw [h]; exact hx⟩
  have hz : ∀ i, (f.getD i z83).f2.length ≤ 1048576 := fun i => by
    by_cases hi : i < f.length
    · exact hk _ (getD_mem' hi)
    · rw [List.getD_eq_getElem?_getD, List.getElem?_eq_none (by omega)]; exact Nat.zero_le _
  unfold tornB tearB tornI
  split
  · split
    · exact hset _ _ (by rw [List.length_set]; exact hz _)
    · exact hset _ _ (by rw [tornL_len (Nat.le_refl _)]; exact hz _)
  · exact ⟨hn, hk⟩
/-- Steps that are cut. -/
def cutB (f : List S83) (L : List S56) (w : Int) (tn : Bool) : List S83 × Bool :=
  if 0 ≤ w ∧ w ≤ (L.length : Int) then
    (if (runB (L.take w.toNat) (L.take w.toNat).length 0 f).2 < w then (f, false)
     else if tn = true ∧ ¬ w = (L.length : Int) then
       (if (tornB (runB (L.take w.toNat) (L.take w.toNat).length 0 f).1 (L.getD w.toNat z56).f0 (L.getD w.toNat z56).f1 (L.getD w.toNat z56).f2 (L.getD w.toNat z56).f3).2 = true
        then ((tornB (runB (L.take w.toNat) (L.take w.toNat).length 0 f).1 (L.getD w.toNat z56).f0 (L.getD w.toNat z56).f1 (L.getD w.toNat z56).f2 (L.getD w.toNat z56).f3).1, true) else (f, false))
     else ((runB (L.take w.toNat) (L.take w.toNat).length 0 f).1, true))
  else (f, false)
theorem rdS_toNat (L : List S56) (b : Int) : rd_T56 L b = L.getD b.toNat z56 := rfl
theorem iCut_ev (f : List S83) (L : List S56) (w : Int) (tn : Bool) (hn : f.length ≤ 1048576) (hk : ∀ x ∈ f, x.f2.length ≤ 1048576) (hL : L.length ≤ 1048576) : Ev (fun k => impl_CutSteps.f k f L w tn) (cutB f L w tn) := by
  unfold impl_CutSteps.f cutB
  rw [inF_eq]
  simp only [Option.bind_some]
  by_cases h : 0 ≤ w ∧ w ≤ (L.length : Int)
  · have hl : (L.take w.toNat).length ≤ 1048576 := by rw [List.length_take]; omega
    have hr := iSteps_ev f (L.take w.toNat) hn hk hl
    obtain ⟨b1, b2⟩ := runB_le (L.take w.toNat) (L.take w.toNat).length 0 f hn hk
    simp only [if_pos h, if_pos (decide_eq_true h), if_pos h.1, if_pos h.2]
    refine ev_bind hr ?_
    revert b1 b2
    generalize runB (L.take w.toNat) (L.take w.toNat).length 0 f = P
    intro b1 b2
    by_cases h2 : P.2 < w
    · simp only [if_pos h2]; exact ev_bind (iCopyF_ev f hn hk) (Ev.now _)
    simp only [if_neg h2]
    have main : ∀ q : Bool, Ev (fun k => impl_CutSteps.j0 k L w q f P.1) (if q = true then (P.1, true) else if w < (L.length : Int) then (if (tornB P.1 (L.getD w.toNat z56).f0 (L.getD w.toNat z56).f1 (L.getD w.toNat z56).f2 (L.getD w.toNat z56).f3).2 = true then ((tornB P.1 (L.getD w.toNat z56).f0 (L.getD w.toNat z56).f1 (L.getD w.toNat z56).f2 (L.getD w.toNat z56).f3).1, true) else (f, false)) else (P.1, true)) ∨ ¬ (q = true ∨ w < (L.length : Int)) := by
      intro q
      by_cases hq : q = true
      · refine .inl (ev_some fun k => ?_)
        simp only [impl_CutSteps.j0, if_pos hq]
      · by_cases hw : w < (L.length : Int)
        · refine .inl ?_
          simp only [if_neg hq, if_pos hw]
          refine Ev.step (f := fun k => (impl_Torment.f k P.1 (L.getD w.toNat z56).f0 (L.getD w.toNat z56).f1 (L.getD w.toNat z56).f2 (L.getD w.toNat z56).f3).bind fun bt => if bt.2 = true then some (bt.1, true) else (impl_copyFlash.f k f).bind fun t => some (t, false)) (fun k => ?_) (ev_bind (iTorn_ev P.1 _ _ _ _ b1 b2) ?_)
          · simp only [impl_CutSteps.j0, rdS_toNat]
            rw [if_neg hq, if_pos h.1, if_pos hw]
          · generalize tornB P.1 (L.getD w.toNat z56).f0 (L.getD w.toNat z56).f1 (L.getD w.toNat z56).f2 (L.getD w.toNat z56).f3 = T
            by_cases hT : T.2 = true
            · simp only [if_pos hT]; exact Ev.now _
            · simp only [if_neg hT]; exact ev_bind (iCopyF_ev f hn hk) (Ev.now _)
        · exact .inr fun h => h.elim hq hw
    by_cases ht : tn = true
    · simp only [if_pos ht]
      by_cases he : w = (L.length : Int)
      · rw [if_neg (fun h => h.2 he), beq_iff_eq.2 he]
        rcases main true with h3 | h3
        · simpa using h3
        · exact absurd (.inl rfl) h3
      · have hlt : w < (L.length : Int) := by omega
        rw [if_pos ⟨ht, he⟩, beq_eq_false_iff_ne.2 he]
        rcases main false with h3 | h3
        · simp only [Bool.false_eq_true, if_false, if_pos hlt] at h3; exact h3
        · exact absurd (.inr hlt) h3
    · simp only [if_neg ht]
      rw [if_neg (fun h => ht h.1)]
      rcases main true with h3 | h3
      · simpa using h3
      · exact absurd (.inl rfl) h3
  · simp only [if_neg h, if_neg (show ¬ decide (0 ≤ w ∧ w ≤ (L.length : Int)) = true by rw [decide_eq_true_eq]; exact h)]
    exact ev_bind (iCopyF_ev f hn hk) (Ev.now _)
theorem sCut_ev (f : List S83) (L : List S56) (w : Int) (tn : Bool) (hn : f.length ≤ 1048576) (hk : ∀ x ∈ f, x.f2.length ≤ 1048576) (hL : L.length ≤ 1048576) : Ev (fun k => spec_CutSteps.f k f L w tn) (cutB f L w tn) := by
  unfold spec_CutSteps.f cutB
  rw [l01InF_eq]
  simp only [Option.bind_some]
  by_cases h : 0 ≤ w ∧ w ≤ (L.length : Int)
  · have hl : (L.take w.toNat).length ≤ 1048576 := by rw [List.length_take]; omega
    have hr := sSteps_ev f (L.take w.toNat) hn hk hl
    obtain ⟨b1, b2⟩ := runB_le (L.take w.toNat) (L.take w.toNat).length 0 f hn hk
    simp only [if_pos h, if_pos (decide_eq_true h), if_pos h.1, if_pos h.2]
    refine ev_bind hr ?_
    revert b1 b2
    generalize runB (L.take w.toNat) (L.take w.toNat).length 0 f = P
    intro b1 b2
    by_cases h2 : P.2 < w
    · simp only [if_pos h2]; exact ev_bind (sCopyF_ev f hn hk) (Ev.now _)
    simp only [if_neg h2]
    have main : ∀ q : Bool, Ev (fun k => spec_CutSteps.j0 k L w q f P.1) (if q = true then (P.1, true) else if w < (L.length : Int) then (if (tornB P.1 (L.getD w.toNat z56).f0 (L.getD w.toNat z56).f1 (L.getD w.toNat z56).f2 (L.getD w.toNat z56).f3).2 = true then ((tornB P.1 (L.getD w.toNat z56).f0 (L.getD w.toNat z56).f1 (L.getD w.toNat z56).f2 (L.getD w.toNat z56).f3).1, true) else (f, false)) else (P.1, true)) ∨ ¬ (q = true ∨ w < (L.length : Int)) := by
      intro q
      by_cases hq : q = true
      · refine .inl (ev_some fun k => ?_)
        simp only [spec_CutSteps.j0, if_pos hq]
      · by_cases hw : w < (L.length : Int)
        · refine .inl ?_
          simp only [if_neg hq, if_pos hw]
          refine Ev.step (f := fun k => (spec_Torment.f k P.1 (L.getD w.toNat z56).f0 (L.getD w.toNat z56).f1 (L.getD w.toNat z56).f2 (L.getD w.toNat z56).f3).bind fun bt => if bt.2 = true then some (bt.1, true) else (spec_l05Copy.f k f).bind fun t => some (t, false)) (fun k => ?_) (ev_bind (sTorn_ev P.1 _ _ _ _ b1 b2) ?_)
          · simp only [spec_CutSteps.j0, rdS_toNat]
            rw [if_neg hq, if_pos h.1, if_pos hw]
          · generalize tornB P.1 (L.getD w.toNat z56).f0 (L.getD w.toNat z56).f1 (L.getD w.toNat z56).f2 (L.getD w.toNat z56).f3 = T
            by_cases hT : T.2 = true
            · simp only [if_pos hT]; exact Ev.now _
            · simp only [if_neg hT]; exact ev_bind (sCopyF_ev f hn hk) (Ev.now _)
        · exact .inr fun h => h.elim hq hw
    by_cases ht : tn = true
    · simp only [if_pos ht]
      by_cases he : w = (L.length : Int)
      · rw [if_neg (fun h => h.2 he), beq_iff_eq.2 he]
        rcases main true with h3 | h3
        · simpa using h3
        · exact absurd (.inl rfl) h3
      · have hlt : w < (L.length : Int) := by omega
        rw [if_pos ⟨ht, he⟩, beq_eq_false_iff_ne.2 he]
        rcases main false with h3 | h3
        · simp only [Bool.false_eq_true, if_false, if_pos hlt] at h3; exact h3
        · exact absurd (.inr hlt) h3
    · simp only [if_neg ht]
      rw [if_neg (fun h => ht h.1)]
      rcases main true with h3 | h3
      · simpa using h3
      · exact absurd (.inl rfl) h3
  · simp only [if_neg h, if_neg (show ¬ decide (0 ≤ w ∧ w ≤ (L.length : Int)) = true by rw [decide_eq_true_eq]; exact h)]
    exact ev_bind (sCopyF_ev f hn hk) (Ev.now _)
theorem cutB_le {f : List S83} (L : List S56) (w : Int) (tn : Bool) (hn : f.length ≤ 1048576) (hk : ∀ x ∈ f, x.f2.length ≤ 1048576) : (cutB f L w tn).1.length ≤ 1048576 ∧ ∀ x ∈ (cutB f L w tn).1, x.f2.length ≤ 1048576 := by
  obtain ⟨b1, b2⟩ := runB_le (L.take w.toNat) (L.take w.toNat).length 0 f hn hk
  have ht := tornB_le (L.getD w.toNat z56).f0 (L.getD w.toNat z56).f1 (L.getD w.toNat z56).f2 (L.getD w.toNat z56).f3 b1 b2
  unfold cutB
  split
  · split
    · exact ⟨hn, hk⟩
    · split
      · split
        · exact ht
        · exact ⟨hn, hk⟩
      · exact ⟨b1, b2⟩
  · exact ⟨hn, hk⟩
end Go.Proofs.Ytklkhnomnanpoaa.Pu

/- The law FnCuts: drawn steps that are cut are steps that were done, and at most one that is torn. -/
namespace Go.Proofs.Ytklkhnomnanpoaa.M2.Mp
set_option linter.unusedVariables false
set_option linter.unusedSimpArgs false
open Go.RowKit Go.Proofs.Ytklkhnomnanpoaa.PK Go.Proofs.YtklkhnomnanpoaaW.PrintWords Go.Proofs.Ytklkhnomnanpoaa.Pu

theorem drawPlaceX (n : Int) (b : List Int) (i h : Int) (hn : 0 < n) (hc : Cur b i) (hb : Cb b) : EvX (fun k => spec_l01Place.f k n b i h) (fun t => t.2.1 = b ∧ Cur b t.2.2.1) := by
  unfold spec_l01Place.f
  refine evx_bind (onceX 15 b i h (by omega) hc hb) fun ⟨o, b1, i1, h1⟩ ⟨e, hc⟩ => ?_
  obtain rfl : b1 = b := e
  refine evx_ite (fun _ => ?_) (fun _ => ?_)
  · refine evx_bind (pickIntX _ b1 i1 h1 (by simp) hc hb) fun ⟨u, b3, i3, h3⟩ ⟨_, e, hc⟩ => ?_
    exact evx_some ⟨e, hc⟩
  · refine evx_bind (belowX n b1 i1 h1 hn hc hb) fun ⟨u, b3, i3, h3⟩ ⟨_, e, hc⟩ => ?_
    exact evx_some ⟨e, hc⟩
theorem drawCutX (b : List Int) (hb : Cb b) : EvX (fun k => spec_DrawCutSteps.f k b) (fun t => Small t.1 ∧ t.2.1.length ≤ 7) := by
  unfold spec_DrawCutSteps.f
  refine evx_bind (newX b hb) fun ⟨b0, i, h⟩ ⟨e, hc⟩ => ?_
  obtain rfl : b0 = b := e
  refine evx_bind (anyX b0 i h hc hb) fun ⟨f, b1, i1, h1⟩ ⟨hs, e, hc⟩ => ?_
  obtain rfl : b1 = b0 := e
  refine evx_bind (stepsX b1 i1 h1 hs hc hb) fun ⟨L, b2, i2, h2⟩ ⟨hL, e, hc⟩ => ?_
  obtain rfl : b2 = b1 := e
  refine evx_bind (drawPlaceX 7 b2 i2 h2 (by omega) hc hb) fun ⟨w, b3, i3, h3⟩ ⟨e, hc⟩ => ?_
  obtain rfl : b3 = b2 := e
  refine evx_bind (onceX 2 b3 i3 h3 (by omega) hc hb) fun ⟨o, b4, i4, h4⟩ ⟨e, hc⟩ => ?_
  exact evx_some ⟨hs, hL⟩
theorem cut_ok {f : List S83} {L : List S56} {w : Int} {tn : Bool} (h : (cutB f L w tn).2 = true) : 0 ≤ w ∧ w ≤ (L.length : Int) ∧ (runB (L.take w.toNat) (L.take w.toNat).length 0 f).2 = w ∧
    ((tn = true ∧ ¬ w = (L.length : Int) ∧ (tornB (runB (L.take w.toNat) (L.take w.toNat).length 0 f).1 (L.getD w.toNat z56).f0 (L.getD w.toNat z56).f1 (L.getD w.toNat z56).f2 (L.getD w.toNat z56).f3).2 = true ∧
      (cutB f L w tn).1 = (tornB (runB (L.take w.toNat) (L.take w.toNat).length 0 f).1 (L.getD w.toNat z56).f0 (L.getD w.toNat z56).f1 (L.getD w.toNat z56).f2 (L.getD w.toNat z56).f3).1) ∨
     (¬ (tn = true ∧ ¬ w = (L.length : Int)) ∧ (cutB f L w tn).1 = (runB (L.take w.toNat) (L.take w.toNat).length 0 f).1)) := by
  unfold cutB at h ⊢
  by_cases h1 : 0 ≤ w ∧ w ≤ (L.length : Int)
  · rw [if_pos h1] at h ⊢
    have hr := runB_range (L.take w.toNat) (L.take w.toNat).length 0 f (by omega)
    have hlen : (L.take w.toNat).length = w.toNat := by rw [List.length_take]; omega
    by_cases h2 : (runB (L.take w.toNat) (L.take w.toNat).length 0 f).2 < w
    · rw [if_pos h2] at h; cases h
    · rw [if_neg h2] at h ⊢
      refine ⟨h1.1, h1.2, by omega, ?_⟩
      by_cases h3 : tn = true ∧ ¬ w = (L.length : Int)
      · rw [if_pos h3] at h ⊢
        split at h
        · rename_i h4; rw [if_pos h4]; exact .inl ⟨h3.1, h3.2, h4, rfl⟩
        · cases h
      · rw [if_neg h3]; exact .inr ⟨h3, rfl⟩
  · rw [if_neg h1] at h; cases h
theorem cut_no {f : List S83} {L : List S56} {w : Int} {tn : Bool} (h : ¬ (cutB f L w tn).2 = true) : (cutB f L w tn).1 = f := by
  unfold cutB at h ⊢
  by_cases h1 : 0 ≤ w ∧ w ≤ (L.length : Int)
  · rw [if_pos h1] at h ⊢
    by_cases h2 : (runB (L.take w.toNat) (L.take w.toNat).length 0 f).2 < w
    · rw [if_pos h2]
    · rw [if_neg h2] at h ⊢
      by_cases h3 : tn = true ∧ ¬ w = (L.length : Int)
      · rw [if_pos h3] at h ⊢
        split at h
        · exact absurd rfl h
        · rename_i h4; rw [if_neg h4]
      · rw [if_neg h3] at h; exact absurd rfl h
  · rw [if_neg h1]
/-- The next blank leaf is the only one with leaves ahead that are not. -/
theorem next_uniq {ls : List S101} {t : Nat} (hl : ls.length = 4) (ht : t ≤ 4) (hp : ∀ i, i < t → blankL (ls.getD i z101) = false) (hb : t < 4 → blankL (ls.getD t z101) = true) : nextB ls = (t : Int) := by
  rcases next_spec ls with ⟨h1, h2⟩ | ⟨s, h1, h2, h3, h4⟩
  · rw [h1]
    by_cases h : t < 4
    · have := h2 t (by omega); rw [hb h] at this; cases this
    · omega
  · rw [h2]
    by_cases e1 : s < t
    · have := hp s e1; rw [h3] at this; cases this
    · by_cases e2 : t < s
      · have := h4 t e2; rw [hb (by omega)] at this; cases this
      · omega
theorem torn_four (L : List S101) (h : L.length = 4) : tornL L L.length = List.replicate 4 tz := by
  unfold tornL; rw [List.drop_length, List.append_nil, h]
theorem four_get {i : Nat} (h : i < 4) : (List.replicate 4 tz).getD i z101 = tz := by
  rw [List.getD_eq_getElem?_getD, List.getElem?_replicate, if_pos h]; rfl
theorem block_torn (b : Bool) {n : Int} (h0 : 0 ≤ n) (h1 : n ≤ 1000000000) : blockB ⟨b, n, List.replicate 4 tz⟩ = true := by
  refine block_iff.2 ⟨by simp, ⟨h0, h1⟩, fun i hi => ?_⟩
  show stepB (List.replicate 4 tz) i = true
  unfold stepB
  rw [four_get hi]
  by_cases e : i = 0
  · rw [decide_eq_true e]; rfl
  · rw [four_get (show i - 1 < 4 by omega)]; cases decide (i = 0) <;> rfl
theorem readX {f : List S83} {b a : Int} (hs : Small f) (hb : 0 ≤ b) (hb2 : b < (f.length : Int)) (ha : 0 ≤ a) (ha2 : a < ((f.getD b.toNat z83).f2.length : Int)) (hn : ¬ ((f.getD b.toNat z83).f2.getD a.toNat z101).f0 = 1) :
    EvX (fun k => impl_ReadLeaf.f k f b a) (fun t => t.2 = false) := by
  have inX : ∀ x l h : Int, EvX (fun k => impl_in.f k x l h) (fun r => r = decide (l ≤ x ∧ x ≤ h)) := fun x l h =>
    ⟨_, ev_all_k (fun m => impl_in.rel 0 x l h _ (inF_eq x l h) m (Nat.zero_le _)), rfl⟩
  have hm := hs.2 _ (getD_mem' (z := z83) (show b.toNat < f.length by omega))
  have hlen := hs.1
  have e1 : M2.w64 ((f.length : Int) - 1) = (f.length : Int) - 1 := m64i (by omega) (by omega)
  have e2 : M2.w64 (((rd_T83 f b).f2.length : Int) - 1) = ((rd_T83 f b).f2.length : Int) - 1 := m64i (by omega) (by show ((f.getD b.toNat z83).f2.length : Int) - 1 ≤ _; omega)
  unfold impl_ReadLeaf.f
  simp only [e1, e2]
  refine evx_bind (inX _ _ _) fun t ht => ?_
  refine evx_pos (by rw [ht]; simp; omega) (evx_pos hb (evx_pos hb2 ?_))
  refine evx_bind (inX _ _ _) fun t ht => ?_
  refine evx_pos (by
    rw [ht]; simp only [decide_eq_true_eq]
    exact ⟨ha, by show a ≤ ((f.getD b.toNat z83).f2.length : Int) - 1; omega⟩) (evx_pos hb (evx_pos hb2 (evx_pos ha (evx_pos ha2 (evx_neg hn (evx_some rfl))))))
theorem nextX {b : Bool} {n : Int} {ls : List S101} (h : ls.length ≤ 1048576) : EvX (fun k => impl_NextBlank.f k b n ls) (fun t => t = nextB ls) :=
  ⟨_, ev_rel (iNext_ev b n ls h) (fun k r hh m hm => impl_NextBlank.rel k b n ls r hh m hm), rfl⟩
theorem wipeX {f : List S83} (b : Int) (h : Small f) : EvX (fun k => impl_Wipe.f k f b) (fun t => t = wipeB f b) :=
  ⟨_, ev_rel (iWipe_ev f b h.1 h.2) (fun k r hh m hm => impl_Wipe.rel k f b r hh m hm), rfl⟩
theorem iCutX {f : List S83} {L : List S56} (w : Int) (tn : Bool) (h : Small f) (hL : L.length ≤ 1048576) : EvX (fun k => impl_CutSteps.f k f L w tn) (fun t => t = cutB f L w tn) :=
  ⟨_, ev_rel (iCut_ev f L w tn h.1 h.2 hL) (fun k r hh m hm => impl_CutSteps.rel k f L w tn r hh m hm), rfl⟩
theorem sCutX {f : List S83} {L : List S56} (w : Int) (tn : Bool) (h : Small f) (hL : L.length ≤ 1048576) : EvX (fun k => spec_CutSteps.f k f L w tn) (fun t => t = cutB f L w tn) :=
  ⟨_, ev_rel (sCut_ev f L w tn h.1 h.2 hL) (fun k r hh m hm => spec_CutSteps.rel k f L w tn r hh m hm), rfl⟩
theorem iTornX {f : List S83} (kd b a : Int) (t : ByteArray) (h : Small f) : EvX (fun k => impl_Torment.f k f kd b a t) (fun r => r = tornB f kd b a t) :=
  ⟨_, ev_rel (iTorn_ev f kd b a t h.1 h.2) (fun k r hh m hm => impl_Torment.rel k f kd b a t r hh m hm), rfl⟩
/-- A torn leaf is not read, and the next one is blank. -/
theorem tear_facts {f : List S83} {b a : Int} {t : ByteArray} (h : (doB f 1 b a t).2 = true) : 0 ≤ b ∧ b < (f.length : Int) ∧ 0 ≤ a ∧ a ≤ 3 ∧ (tearB f b a t).length = f.length ∧ ((tearB f b a t).getD b.toNat z83).f2.length = 4 ∧
    (((tearB f b a t).getD b.toNat z83).f2.getD a.toNat z101).f0 = 2 ∧ nextB ((tearB f b a t).getD b.toNat z83).f2 = a + 1 := by
  obtain ⟨hu, hp⟩ := do_use h
  have hp := hp rfl
  obtain ⟨u1, u2, u3, u4, _⟩ := use_of hu
  obtain ⟨a0, a3, _⟩ := prog_of hp
  have h4 := four_of u1 u3
  have hblk := (flash_iff.1 u1).1 b.toNat u3
  obtain ⟨_, _, hst⟩ := block_iff.1 hblk
  have hnx : a = nextB (f.getD b.toNat z83).f2 := by
    unfold progOk at hp
    simp only [Bool.and_eq_true, decide_eq_true_eq] at hp
    exact hp.2.2.1
  have e : (tearB f b a t).getD b.toNat z83 = ⟨(f.getD b.toNat z83).f0, (f.getD b.toNat z83).f1, (f.getD b.toNat z83).f2.set a.toNat ⟨2, t.extract 0 ((wrap64 ((t.size : Int) / 2)) : Int).toNat⟩⟩ := getD_set_at u3
  rw [e]
  refine ⟨u2, u4, a0, a3, List.length_set, by show (List.set _ _ _).length = 4; rw [List.length_set]; exact h4, ?_, ?_⟩
  · show ((List.set _ _ _).getD a.toNat z101).f0 = 2
    rw [getD_set_at (by omega)]
  · rcases next_spec (f.getD b.toNat z83).f2 with ⟨n1, _⟩ | ⟨s, n1, n2, n3, n4⟩
    · rw [n1] at hnx; omega
    · have hs : a.toNat = s := by omega
      have := next_uniq (ls := (f.getD b.toNat z83).f2.set a.toNat ⟨2, t.extract 0 ((wrap64 ((t.size : Int) / 2)) : Int).toNat⟩) (t := s + 1) (by rw [List.length_set]; exact h4) (by omega) (fun i hi => by
          rw [getD_setB i _ _ (by omega)]
          split
          · rfl
          · exact n4 i (by omega)) (fun hlt => by
          rw [getD_setB (s + 1) _ _ (by omega), if_neg (by omega)]
          have h5 := hst (s + 1) (by omega)
          unfold stepB at h5
          have n3' : ((f.getD b.toNat z83).f2.getD s z101).f0 = 0 := by unfold blankL at n3; exact of_decide_eq_true n3
          simp only [Nat.add_sub_cancel, n3', Bool.and_eq_true, Bool.or_eq_true, decide_eq_true_eq, Bool.not_eq_true', decide_eq_false_iff_not] at h5
          unfold blankL
          refine decide_eq_true ?_
          rcases h5.2 with (h6 | h6) | h6
          · omega
          · exact absurd trivial h6
          · exact h6)
      show nextB (List.set _ _ _) = a + 1
      rw [this]; omega
/-- A block that was torn when it was wiped may be wiped, and nothing of it is blank. -/
theorem tornI_facts {f : List S83} {b : Int} (h : wipeOk f b = true) : 0 ≤ b ∧ b < (f.length : Int) ∧ wipeOk (tornI f b.toNat (f.getD b.toNat z83).f2.length) b = true ∧ nextB ((tornI f b.toNat (f.getD b.toNat z83).f2.length).getD b.toNat z83).f2 = 4 := by
  unfold wipeOk at h
  simp only [Bool.and_eq_true, Bool.not_eq_true', decide_eq_false_iff_not] at h
  obtain ⟨hu, hw⟩ := h
  obtain ⟨u1, u2, u3, u4, u5⟩ := use_of hu
  have h4 := four_of u1 u3
  have hblk := (flash_iff.1 u1).1 b.toNat u3
  obtain ⟨_, hwr, _⟩ := block_iff.1 hblk
  have hg := tornI_get (i := (f.getD b.toNat z83).f2.length) u3
  have hL := tornI_len f b.toNat (f.getD b.toNat z83).f2.length
  have e4 := torn_four (f.getD b.toNat z83).f2 h4
  have hfl : flashB (tornI f b.toNat (f.getD b.toNat z83).f2.length) = true := by
    unfold tornI
    refine flash_set u1 u3 ?_
    rw [e4]; exact block_torn _ hwr.1 hwr.2
  refine ⟨u2, u4, ?_, ?_⟩
  · unfold wipeOk useB
    rw [hg, hL, hfl]
    simp only [Bool.and_eq_true, decide_eq_true_eq, Bool.not_eq_true', decide_eq_false_iff_not, Bool.true_and]
    exact ⟨⟨⟨u2, by omega⟩, u5⟩, hw⟩
  · rw [hg]
    show nextB (tornL _ _) = 4
    rw [e4]
    exact next_uniq (t := 4) (by simp) (Nat.le_refl _) (fun i hi => by rw [four_get hi]; rfl) (fun h => by omega)
theorem fnCutsX (b : List Int) : EvX (fun k => laws_FnCuts.f k b) (fun r => r = true) := by
  unfold laws_FnCuts.f
  refine evx_bind (bigX b) fun t ht => ?_
  refine evx_ite (fun _ => evx_some rfl) (fun hbig => ?_)
  have hlen : b.length ≤ 1048576 := by
    rw [ht] at hbig
    simp only [decide_eq_true_eq] at hbig
    omega
  have hb : Cb b := by show b.length ≤ _; omega
  refine evx_bind (drawCutX b hb) fun ⟨f, L, w, tn⟩ ⟨hs, hL⟩ => ?_
  dsimp only at *
  refine evx_bind (iCutX w tn hs (by omega)) fun t3 e3 => ?_
  refine evx_bind (sCutX w tn hs (by omega)) fun t4 e4 => ?_
  subst e3
  subst e4
  have hsa : Small (cutB f L w tn).1 := cutB_le L w tn hs.1 hs.2
  refine evx_pos (by simp) ?_
  refine evx_bind (sameX hsa) fun t5 e5 => evx_pos e5 ?_
  refine evx_ite (fun hok => ?_) (fun hno => ?_)
  · obtain ⟨h0, h1, h2, h3⟩ := cut_ok hok
    have hM : (L.drop 0).take (w.toNat - 0) = L.take w.toNat := by simp
    refine evx_pos h0 (evx_pos h1 ?_)
    rw [hM]
    refine evx_bind (sStepsX hs (by rw [List.length_take]; omega)) fun t7 e7 => ?_
    subst e7
    have hsB := small_run (L.take w.toNat) (L.take w.toNat).length 0 hs
    refine evx_pos h2 ?_
    refine evx_ite (fun htn => ?_) (fun htn => ?_)
    · refine evx_ite (fun hw => ?_) (fun hw => ?_)
      · rcases h3 with ⟨_, h4, _⟩ | ⟨_, h4⟩
        · exact absurd hw h4
        · rw [h4]; exact evx_bind (sameX hsB) fun t e => evx_some e
      · rcases h3 with ⟨_, _, h5, h6⟩ | ⟨h4, _⟩
        · refine evx_pos h0 (evx_pos (by omega) ?_)
          refine evx_bind (iTornX _ _ _ _ hsB) fun t10 e10 => ?_
          subst e10
          have e56 : rd_T56 L w = L.getD w.toNat z56 := rfl
          simp only [e56]
          generalize L.getD w.toNat z56 = st at h5 h6
          have hdo : (doB (runB (L.take w.toNat) (L.take w.toNat).length 0 f).1 st.f0 st.f1 st.f2 st.f3).2 = true := by
            unfold tornB at h5
            split at h5
            · assumption
            · cases h5
          generalize (runB (L.take w.toNat) (L.take w.toNat).length 0 f).1 = B at h5 h6 hdo hsB
          refine evx_pos h0 (evx_pos (by omega) ?_)
          refine evx_ite (fun hk => ?_) (fun hk => ?_)
          · rw [hk] at hdo
            have e1 : (tornB B st.f0 st.f1 st.f2 st.f3).1 = tearB B st.f1 st.f2 st.f3 := by
              unfold tornB; rw [hk, if_pos hdo, if_pos rfl]
            obtain ⟨k1, k2, k3, k4, k5, k6, k7, k8⟩ := tear_facts hdo
            have ea : (cutB f L w tn).1 = tearB B st.f1 st.f2 st.f3 := h6.trans e1
            rw [ea] at hsa ⊢
            refine evx_bind (readX hsa k1 (by omega) k3 (by omega) (by rw [k7]; decide)) fun t11 e11 => ?_
            refine evx_pos h5 ?_
            rw [e1]
            refine evx_bind (sameX hsa) fun t e => evx_pos e ?_
            refine evx_neg (by rw [e11]; decide) (evx_pos k1 (evx_pos (by omega) ?_))
            refine evx_bind (nextX (by show ((tearB B st.f1 st.f2 st.f3).getD st.f1.toNat z83).f2.length ≤ _; omega)) fun t e => evx_some ?_
            rw [e, show rd_T83 (tearB B st.f1 st.f2 st.f3) st.f1 = (tearB B st.f1 st.f2 st.f3).getD st.f1.toNat z83 from rfl, k8, m64i (by omega) (by omega)]
            simp
          · have hk2 : st.f0 = 2 := by
              unfold doB at hdo
              rw [if_neg hk] at hdo
              split at hdo
              · assumption
              · cases hdo
            have hwo : wipeOk B st.f1 = true := by
              unfold doB at hdo
              rw [if_neg hk, if_pos hk2] at hdo
              unfold wipeB at hdo
              split at hdo
              · assumption
              · cases hdo
            have e1 : (tornB B st.f0 st.f1 st.f2 st.f3).1 = tornI B st.f1.toNat (B.getD st.f1.toNat z83).f2.length := by
              unfold tornB; rw [if_pos hdo, if_neg hk]
            obtain ⟨k1, k2, k3, k4⟩ := tornI_facts hwo
            have ea : (cutB f L w tn).1 = tornI B st.f1.toNat (B.getD st.f1.toNat z83).f2.length := h6.trans e1
            rw [ea] at hsa ⊢
            have hL2 := tornI_len B st.f1.toNat (B.getD st.f1.toNat z83).f2.length
            refine evx_bind (wipeX _ hsa) fun t14 e14 => ?_
            subst e14
            refine evx_pos h5 ?_
            rw [e1]
            refine evx_bind (sameX hsa) fun t e => evx_pos e ?_
            refine evx_pos (by unfold wipeB; rw [if_pos k3]) (evx_pos k1 (evx_pos (by omega) ?_))
            refine evx_bind (nextX (hsa.2 _ (getD_mem' (z := z83) (show st.f1.toNat < _ by omega)))) fun t e => evx_some ?_
            rw [e, show rd_T83 (tornI B st.f1.toNat (B.getD st.f1.toNat z83).f2.length) st.f1 = (tornI B st.f1.toNat (B.getD st.f1.toNat z83).f2.length).getD st.f1.toNat z83 from rfl, k4]
            rfl
        · exact absurd ⟨htn, hw⟩ h4
    · rcases h3 with ⟨h4, _⟩ | ⟨_, h4⟩
      · exact absurd h4 htn
      · rw [h4]; exact evx_bind (sameX hsB) fun t e => evx_some e
  · rw [cut_no hno]; exact evx_bind (sameX hs) fun t e => evx_some e
end Go.Proofs.Ytklkhnomnanpoaa.M2.Mp
namespace Go.Proofs.Ytklkhnomnanpoaa.Pure
open Go.Proofs.Ytklkhnomnanpoaa.M2
theorem FnCuts (l : List Int) (_ : ∀ n ∈ l, (Go.Lit.int .u8 n).wf = true) : ∃ k, laws_FnCuts.f k l = some true := Mp.evx_out (Mp.fnCutsX l)
end Go.Proofs.Ytklkhnomnanpoaa.Pure

/- From a function's contract to a call of it from without: what it answers; what was there stays. -/
namespace Go.Proofs.Ytklkhnomnanpoaa.M2
open Go Go.RowKit
set_option linter.unusedVariables false
section
variable {Ty : Type} {D : Ty → Type} {P : Program} {K : Kit Ty D}
theorem hp0 (k : Nat) : hpOf ([] : List (Blk Ty D)) k = none := rfl
theorem blk0 (nm : Nm) : blkAt K (hpOf ([] : List (Blk Ty D))) nm = none := by
  unfold blkAt; cases nm.sub <;> rfl
theorem own0 (γ : Nm → Hdr) (g : Nat) (nm : Nm) : ¬ Own K (hpOf ([] : List (Blk Ty D))) γ g nm := by
  rintro ⟨⟨b, hb⟩, _⟩; rw [blk0] at hb; cases hb
/-- The memory of a call from without. -/
def Out (Ty : Type) (D : Ty → Type) (w : World) : Mem Ty D := ⟨w, fun _ g => g < w.heap.size, hpOf [], fun _ => (none, 0), (· < ([] : List (Blk Ty D)).length)⟩
theorem top {f : FuncId} {ins : List (AV Ty D)} {v : Value} (h : Contract P K f ins [] (.sc v) [] []) (w : World) (args : Array Value) (hsz : args.size = ins.length)
    (ha : ∀ (k : Nat) u x, args[k]? = some u → ins[k]? = some x → x ≠ .dd ∧ Va K (Out Ty D w) u x) : Calls P f args w fun e w' => e = .returned v ∧ Below w.heap.size w w' := by
  have hl : Lay K (Out Ty D w) := by
    refine ⟨fun nm b hb => ?_, fun g nm nm' h => (own0 _ _ _ h).elim, fun g hg => hg, fun g hg => ⟨hg, fun nm => own0 _ _ _⟩, fun id b hb => ?_⟩
    · rw [show blkAt K (Out Ty D w).H nm = none from blk0 nm] at hb; cases hb
    · cases hb
  refine (h.2.2 w (fun _ g => g < w.heap.size) (fun _ => (none, 0)) args hl (fun g hg _ => hg) hsz ha).mono fun e w' he => ?_
  obtain ⟨u, γ', he, _, _, hv, hk, _⟩ := he
  have hu : u = v := hv.1
  exact ⟨by rw [he, hu], hk.os, hk.tape, hk.output, hk.size, fun k hk' => hk.block k hk' (fun ⟨nm, ho⟩ => own0 _ _ _ ho)⟩
/-- A row of scalars that was there. -/
theorem fz_flat {w : World} {t : Ty} {l : List (D t)} {n : D t → Value} (hc : K.cells t = 1) (he : ∀ x, K.emb t x = [.sc (n x)]) (hs : ∀ x, scalar (n x) = true) {g o c len : Nat} (hg : g < w.heap.size) (hl : l.length = len) (hle : len ≤ c)
    (hcell : ∀ (i : Nat) x, l[i]? = some x → w.cell? ⟨g, o + i, none⟩ = some (n x)) (q : Nat) : Fz K w (fun g => g < w.heap.size) (.slice (some ⟨g, o, none⟩) len c) (.row q t l) := by
  subst hl
  refine ⟨1, _, _, rfl, hle, .inr ⟨g, o, rfl, hg, fun i x hx j cc hj => ?_⟩⟩
  rw [he] at hj
  cases j with
  | succ j => simp at hj
  | zero =>
    simp at hj; subst hj
    refine ⟨n x, ?_, rfl, hs x⟩
    rw [hc, ← hcell i x hx]; congr 2; omega
theorem fz_nil {w : World} {S : Nat → Prop} {t : Ty} {a : Option Addr} {c : Nat} (q : Nat) : Fz K w S (.slice a 0 c) (.row q t []) := ⟨1, a, c, rfl, Nat.zero_le _, .inl rfl⟩
end
end Go.Proofs.Ytklkhnomnanpoaa.M2

/- The law FnCuts holds, for every input: from its function's contract and the plain statement of what it answers. -/
namespace Go.Proofs.Ytklkhnomnanpoaa.fnCuts
set_option linter.unusedVariables false
set_option linter.unusedSimpArgs false
open Go Go.ChangeShapes Go.WideShapes Go.ChangeAt Go.RowKit
open Go.Proofs.Ytklkhnomnanpoaa.M2 (top fz_nil fz_flat Fz Va Vc Out kit AV Ty D Contract)
theorem own : ownKnob Try.prog.godebug = none := by kernel_rfl
theorem laidOut : laidOutB Try.prog = true := by kernel_rfl
/-- Bytes that were there. -/
theorem bytes {H : Type} {enc : TypeId × Value → H} {W : World} {fuel : Nat} {v : Value} {x : DataW H × List MemPlace} (h : DataW.trod enc Try.prog W 0 (fun _ => true) true fuel 69 v.cells.toList = some x) {a : Option Addr} {len cap : Nat} (hv : v = .slice a len cap) :
    ∃ l : List Int, (∀ n ∈ l, (Lit.int .u8 n).wf = true) ∧ Fz kit W (fun g => g < W.heap.size) v (.row 0 .t5 l) := by
  subst hv
  rcases open_ints Try.underlying69 Try.underlying5 (by kernel_rfl) h with ⟨hcs, _⟩ | ⟨y, l, c, zs, hcs, _, hl, hm, hz, _, hcell, hwz⟩
  · simp [Value.cells] at hcs
    obtain ⟨rfl, rfl, rfl⟩ := hcs
    exact ⟨[], by simp, fz_nil 0⟩
  · simp [Value.cells] at hcs
    obtain ⟨rfl, rfl, rfl⟩ := hcs
    have hz : zs.length = cap := by simpa using hz
    refine ⟨zs.take len, fun n hn => hwz n (List.mem_of_mem_take hn), ?_⟩
    have hlen : (zs.take len).length = len := by rw [List.length_take]; omega
    cases len with
    | zero => rw [List.take_zero]; exact fz_nil 0
    | succ m =>
      have h0 := hcell 0 (by omega)
      have hsp : y.spot = none := by
        have := World.cell?_spot h0
        simpa [Addr.add] using this
      obtain ⟨g, o, sp⟩ := y
      simp only at hsp
      subst hsp
      have hadd : ∀ j, (⟨g, o, none⟩ : Addr).add j = ⟨g, o + j, none⟩ := fun j => by unfold Addr.add; split <;> simp_all
      have hg : g < W.heap.size := by
        rw [hadd] at h0
        unfold World.cell? at h0
        rcases Nat.lt_or_ge g W.heap.size with h | h
        · exact h
        · simp [Array.getElem?_eq_none h] at h0
      have key := fz_flat (K := kit) (w := W) (t := .t5) (l := zs.take (m + 1)) (n := fun x : Int => .int .u8 x) rfl (fun x => rfl) (fun x => rfl) (g := g) (o := o) (c := cap) (len := m + 1) hg hlen (by omega) (fun i (x : Int) (hx : (List.take (m + 1) zs : List Int)[i]? = some x) => by
        have hx : (List.take (m + 1) zs : List Int)[i]? = some x := hx
        have hi : i < (zs.take (m + 1)).length := (List.getElem?_eq_some_iff.1 hx).1
        rw [← hadd, hcell i (by rw [hlen] at hi; omega)]
        rw [List.getElem?_take] at hx
        split at hx
        · have hx : zs[i]? = some x := hx
          congr 2
          rw [List.getD_eq_getElem?_getD, hx]; rfl
        · cases hx) 0
      exact key
set_option maxRecDepth 100000 in
theorem lifted (os : Os) (started : os.Started) (H : Type) (enc : TypeId × Value → H) :
    ReturnsInHanded {} Try.checked os 7 .any (Rows.fnCutsSpec.pre6 enc Try.prog Try.f7 Rows.fnCutsRow.domain false) (Rows.fnCutsSpec.post enc Try.prog Try.f7 false true false false) := by
  refine returnsInHanded_of_change_sized (C := Try.checked) own started (by kernel_rfl) Try.func7
    (ChangeSpec.witness6 (enc := enc) (C := Try.checked) false ⟨#[], #[.slice none 0 0], []⟩ 8 (by kernel_rfl) (by kernel_rfl) (by kernel_rfl) (by kernel_rfl)) ?_
  intro W base args ds gs before hval0 hW hcnd hsz0 _
  have hval : ∀ (j : Nat) t v, Try.f7.params[j]? = some t → args[j]? = some v → Value.okWide Try.prog W .any base t v := hval0
  have hW' := hW
  obtain ⟨p, q, hA0, hV, rfl, hfz, hnd⟩ := hW
  have hA : DataW.TrodAll enc Try.prog W 0 (fun _ => true) true Try.f7.params.toList args.toList ds p := hA0
  rw [Try.params7] at hA hval
  obtain ⟨v0, vs0, d0, ds0, p0, q0, hargs, rfl, rfl, h0, r0⟩ := trodAll_cons hA
  obtain ⟨rfl, rfl, rfl⟩ := trodAll_nil r0
  obtain rfl : args = #[v0] := by cases args; simp_all
  obtain ⟨rfl, rfl⟩ := trodVars_none hV
  obtain ⟨a0, len0, cap0, e0⟩ := okWide_slice Try.underlying69 (hval 0 69 v0 rfl rfl)
  have k0 := h0
  have lt0 : ∀ x ∈ p0, x.block < W.heap.size := by obtain ⟨m, hm⟩ := k0; exact DataW.trod_lt m _ _ _ hm
  obtain ⟨l, wl, fz⟩ : ∃ l : List Int, (∀ n ∈ l, (Lit.int .u8 n).wf = true) ∧ Fz kit W (fun g => g < W.heap.size) v0 (.row 0 .t5 l) := by
    obtain ⟨fuel, hf⟩ := h0
    exact bytes hf e0
  clear hA0 hval0 hsz0
  obtain ⟨k, hp⟩ := Pure.FnCuts l wl
  have con : Contract Try.prog kit 7 [.row 0 .t5 l] [] (.sc (.bool true)) [] [] := M2.laws_FnCuts.con k l true hp
  refine (top con W #[v0] rfl (fun j u x hu hx => by
    cases j with
    | succ j => simp at hu
    | zero =>
      have hu : v0 = u := by simpa using hu
      have hx : (.row 0 .t5 l : AV Ty D) = x := by simpa using hx
      subst hu hx
      exact ⟨by simp, fz⟩)).mono fun e W' ⟨he, bel⟩ => ?_
  subst he
  exact ⟨_, rfl, _, _, _, [], _, [], hW', trodAll_mk1 (shut_bool Try.underlying4 _), (trodAll_cons_mk (Below.trod laidOut (by kernel_rfl) (of_decide_eq_true (by kernel_rfl)) k0 bel lt0) trodAll_mk0), rfl, bel.frame _, fun h => by cases h⟩
theorem over : Rows.fnCutsRow.holds Try.pinned (OpenSpec.ofChange Rows.fnCutsSpec) :=
  OpenClaim.holds_of_wide 7 Try.f7 rfl rfl rfl rfl rfl rfl rfl ⟨rfl, rfl, rfl, rfl, rfl⟩ rfl rfl rfl rfl rfl (by kernel_rfl) Try.func7 (by kernel_rfl)
    (of_decide_eq_true (by kernel_rfl)) (by unfold Func.isWrapper; first | (rw [if_pos (by decide +kernel)]; kernel_rfl) | (rw [if_neg (by decide +kernel)]; exact ⟨rfl, rfl⟩))
    (fun os started H enc _ => lifted os started H enc)
end Go.Proofs.Ytklkhnomnanpoaa.fnCuts
namespace Go.Proofs.Ytklkhnomnanpoaa
/-- The row, under a short name, for the claim. -/
theorem fnCuts_holds : Rows.FnCutsSaid := fnCuts.over
end Go.Proofs.Ytklkhnomnanpoaa
