/- FnRefs: functions of the translation as Lean functions with what their calls come to, plain lemmas on them, and, at the end, the row. Parts of one proof, merged by a program of this session; each part's own sentence stands at its head. -/
import Derived.Below
import Derived.Test.YteideicglgpfiaaRows
import Derived.WalkKit
import Derived.ProofKit
import Derived.OpenShut
import Derived.ShutString
import Derived.ChangeOld
import Derived.SizedLaws
import Derived.ChangeSlices
import Derived.Test.YteideicglgpfiaaMFnRefsd
/- The reference's SweepArena tells what the sweep keeps. -/
namespace Go.Proofs.Yteideicglgpfiaa.Pu
set_option linter.unusedVariables false
set_option linter.unusedSimpArgs false
open Go.RowKit Go.Proofs.Yteideicglgpfiaa.PK Go.Proofs.YteideicglgpfiaaW.PrintWords

theorem sSweep5 (roots pos : List Int) (out : List S88) (hr : roots.length ≤ 1048576) (hok : ∀ m, m < roots.length → roots.getD m 0 ≥ 0 → roots.getD m 0 < (pos.length : Int)) :
    ∀ (d m : Nat), m + d = roots.length → Ev (fun k => spec_SweepArena.l5 k (upd (movB pos) roots m) pos (m : Int) out) (out, roots.map (movB pos)) := by
  intro d
  induction d with
  | zero =>
    intro m hm
    obtain rfl : m = roots.length := by omega
    refine ev_some fun k => ?_
    simp only [spec_SweepArena.l5]
    rw [upd_len, if_neg (by omega), upd_full]
  | succ d ih =>
    intro m hm
    have hml : m < roots.length := by omega
    refine Ev.step (fun k => ?_) (ih (m + 1) (by omega))
    simp only [spec_SweepArena.l5]
    rw [upd_len, if_pos (by omega), if_pos (by omega), rd_nat, upd_get, Int.toNat_natCast, wsucc (n := roots.length) hml (by omega)]
    by_cases h : roots.getD m 0 ≥ 0
    · have e : rd pos (roots.getD m 0) = movB pos (roots.getD m 0) := by unfold movB; rw [if_pos h]; rfl
      have h2 := hok m hml h
      rw [if_pos h, if_pos (by omega), if_pos (by omega), e, upd_set _ _ _ hml]
    · rw [if_neg h, upd_id _ _ _ (by unfold movB; rw [if_neg h])]
theorem sSweep4 (a : List S88) (roots : List Int) (x9 : List Bool) (pos kids : List Int) (i : Nat) (out : List S88) (leaf : Bool) (R : List S88 × List Int)
    (hi : i < a.length) (hn : a.length ≤ 1048576) (hp : pos.length = a.length) (ho : out.length ≤ i) (h4 : kids.length = 4) (hk : leaf = false → ∀ j, j < 4 → kids.getD j 0 ≥ 0 → kids.getD j 0 < (a.length : Int))
    (he : Ev (fun k => spec_SweepArena.l3 k roots x9 (pos.set i (out.length : Int)) ((i + 1 : Nat) : Int) a (out ++ [⟨leaf, swKids leaf pos kids⟩])) R) :
    Ev (fun k => spec_SweepArena.l4 k roots x9 pos (i : Int) 0 a out leaf kids) R := by
  have fin : ∀ (j : Nat), (leaf = true ∨ j = 4) → Ev (fun k => spec_SweepArena.l4 k roots x9 pos (i : Int) (j : Int) a out leaf (swKids leaf pos kids)) R := by
    intro j hj
    refine Ev.step (f := fun k => spec_SweepArena.j6 k roots x9 pos (i : Int) (j : Int) false a out leaf (swKids leaf pos kids)) (fun k => ?_) (Ev.step (fun k => ?_) he)
    · simp only [spec_SweepArena.l4]
      by_cases h : j < 4
      · obtain rfl : leaf = true := by rcases hj with h1 | h1; exact h1; omega
        rw [if_pos (by omega)]; rfl
      · rw [if_neg (by omega)]
    · simp only [spec_SweepArena.j6]
      rw [if_neg (by decide), if_pos (by omega), if_pos (by omega), if_pos (by omega), wsucc (n := a.length) hi (by omega), Int.toNat_natCast]
  cases leaf with
  | true => exact fin 0 (.inl rfl)
  | false =>
    have main : ∀ (e j : Nat), j + e = 4 → Ev (fun k => spec_SweepArena.l4 k roots x9 pos (i : Int) (j : Int) a out false (upd (movB pos) kids j)) R := by
      intro e
      induction e with
      | zero =>
        intro j hj
        obtain rfl : j = 4 := by omega
        have h := fin 4 (.inr rfl)
        rw [show swKids false pos kids = upd (movB pos) kids 4 by rw [← h4, upd_full]; rfl] at h
        exact h
      | succ e ihe =>
        intro j hj
        have hjl : j < kids.length := by omega
        refine Ev.step (f := fun k => spec_SweepArena.j6 k roots x9 pos (i : Int) (j : Int) true a out false (upd (movB pos) kids j)) (fun k => ?_) (Ev.step (fun k => ?_) (ihe (j + 1) (by omega)))
        · simp only [spec_SweepArena.l4]
          rw [if_pos (by omega)]; rfl
        · simp only [spec_SweepArena.j6]
          rw [if_pos trivial, upd_len, if_pos (by omega), if_pos (by omega), rd_nat, upd_get, Int.toNat_natCast, wsucc (i := j) (n := 4) (by omega) (by omega)]
          by_cases h : kids.getD j 0 ≥ 0
          · have e : rd pos (kids.getD j 0) = movB pos (kids.getD j 0) := by unfold movB; rw [if_pos h]; rfl
            have h2 := hk rfl j (by omega) h
            rw [if_pos h, if_pos (by omega), if_pos (by omega), e, upd_set _ _ _ hjl]
          · rw [if_neg h, upd_id _ _ _ (by unfold movB; rw [if_neg h])]
    have h := main 4 0 rfl
    rw [upd_zero] at h
    exact h
theorem sSweep3 (a : List S88) (roots : List Int) (x9 : List Bool) (K : Nat → Bool) (hn : a.length ≤ 1048576) (hr : roots.length ≤ 1048576) (ha : arenaB a = true) (hok : ∀ m, m < roots.length → roots.getD m 0 ≥ 0 → roots.getD m 0 < (a.length : Int))
    (hl : x9.length = a.length) (hK : ∀ i, i < a.length → x9.getD i false = K i) :
    ∀ (d i : Nat) (pos : List Int) (out : List S88), i + d = a.length → pos.length = a.length → out.length ≤ i → Ev (fun k => spec_SweepArena.l3 k roots x9 pos (i : Int) a out) (swRes roots (swAll a K d i pos out)) := by
  intro d
  induction d with
  | zero =>
    intro i pos out hi hp ho
    have h := sSweep5 roots pos out hr (by rw [hp]; exact hok) roots.length 0 (by omega)
    rw [upd_zero] at h
    refine Ev.step (fun k => ?_) h
    simp only [spec_SweepArena.l3]
    rw [if_neg (by omega)]; rfl
  | succ d ih =>
    intro i pos out hi hp ho
    have hil : i < a.length := by omega
    obtain ⟨h4, _⟩ := knot_of ha hil
    unfold swAll
    by_cases h : K i = true
    · rw [if_pos h]
      have he := ih (i + 1) (pos.set i (out.length : Int)) (out ++ [⟨(a.getD i z88).f0, swKids (a.getD i z88).f0 pos (a.getD i z88).f1⟩]) (by omega) (by rw [List.length_set]; exact hp) (by simp; omega)
      refine Ev.step (fun k => ?_) (sSweep4 a roots x9 pos _ i out _ _ hil hn hp ho h4 (fun hf j hj hge => ?_) he)
      · simp only [spec_SweepArena.l3]
        rw [if_pos (by omega), if_pos (by omega), if_pos (by omega), rdOf_nat, hK i hil, if_pos h, rdIK_nat, Option.bind_some, if_pos (show ([] : List Int).length + (a.getD i z88).f1.length < 17592186044416 by rw [h4]; decide), List.nil_append]
      · rcases kid_of ha hil hf hj with h1 | ⟨_, h2, _⟩
        · omega
        · omega
    · rw [if_neg h]
      refine Ev.step (fun k => ?_) (ih (i + 1) pos out (by omega) hp (by omega))
      simp only [spec_SweepArena.l3]
      rw [if_pos (by omega), if_pos (by omega), if_pos (by omega), rdOf_nat, hK i hil, if_neg h, wsucc (n := a.length) hil (by omega)]
theorem sSweep1 (a : List S88) (roots : List Int) (hn : a.length ≤ 1048576) (hr : roots.length ≤ 1048576) (ha : arenaB a = true) (hok : (roots.all fun r => decide (r = -1) || rootB a r) = true) :
    ∀ (d m : Nat) (x9 : List Bool), m + d = roots.length → x9.length = a.length → (∀ i, i < a.length → (x9.getD i false || (roots.drop m).any fun r => keptB a r i) = keepB a roots i) →
      Ev (fun k => spec_SweepArena.l1 k roots roots x9 (m : Int) a) (swRes roots (swAll a (keepB a roots) a.length 0 (List.replicate a.length 0) [])) := by
  intro d
  induction d with
  | zero =>
    intro m x9 hm hl hK
    refine Ev.step (fun k => ?_) (sSweep3 a roots x9 (keepB a roots) hn hr ha (okRoots_lt hok) hl (fun i hi => ?_) a.length 0 (List.replicate a.length 0) [] (by omega) (by simp) (by simp))
    · simp only [spec_SweepArena.l1]
      rw [if_neg (by omega), if_pos (by omega), Int.toNat_natCast, if_pos (by omega)]; rfl
    · have h := hK i hi
      rw [List.drop_eq_nil_of_le (by omega)] at h
      simpa using h
  | succ d ih =>
    intro m x9 hm hl hK
    have hml : m < roots.length := by omega
    obtain ⟨L, h1, h2, h3⟩ := sHas_ev a (roots.getD m 0) hn ha (okRoots hok hml)
    have main : ∀ (e j : Nat) (y9 : List Bool), j + e = a.length → y9.length = a.length → (∀ i, i < a.length → (y9.getD i false || (if j ≤ i then L.getD i false else false)) = (x9.getD i false || keptB a (roots.getD m 0) i)) →
        Ev (fun k => spec_SweepArena.l2 k roots roots y9 (m : Int) L (j : Int) a) (swRes roots (swAll a (keepB a roots) a.length 0 (List.replicate a.length 0) [])) := by
      intro e
      induction e with
      | zero =>
        intro j y9 hj hy hY
        refine Ev.step (fun k => ?_) (ih (m + 1) y9 (by omega) hy (fun i hi => ?_))
        · simp only [spec_SweepArena.l2]
          rw [if_neg (by omega), wsucc (n := roots.length) hml (by omega)]
        · have h := hY i hi
          rw [if_neg (by omega), Bool.or_false] at h
          rw [h, ← hK i hi, drop_cons 0 hml, List.any_cons, Bool.or_assoc]
      | succ e ihe =>
        intro j y9 hj hy hY
        have hjl : j < a.length := by omega
        refine Ev.step (fun k => ?_) (ihe (j + 1) (y9.set j (if y9.getD j false = true then true else L.getD j false)) (by omega) (by rw [List.length_set]; exact hy) (fun i hi => ?_))
        · simp only [spec_SweepArena.l2]
          rw [if_pos (by omega), if_pos (by omega), if_pos (by omega), rdOf_nat, rdOf_nat, Int.toNat_natCast, wsucc (i := j) (n := a.length) (by omega) (by omega)]
          by_cases h : y9.getD j false = true
          · rw [if_pos h, if_pos h]
          · rw [if_neg h, if_neg h]
        · rw [← hY i hi, getD_set _ _ _ (by omega)]
          by_cases h : i = j
          · subst h
            rw [if_pos rfl, if_neg (show ¬ (i + 1 ≤ i) by omega), if_pos (Nat.le_refl i)]
            by_cases h5 : y9.getD i false = true
            · rw [if_pos h5, h5]; rfl
            · rw [if_neg h5, Bool.eq_false_iff.mpr h5]; cases L.getD i false <;> rfl
          · rw [if_neg h]
            by_cases h5 : j ≤ i
            · rw [if_pos (by omega), if_pos h5]
            · rw [if_neg (by omega), if_neg h5]
    refine Ev.step (f := fun k => (spec_l11Has.f k a (roots.getD m 0)).bind fun t => spec_SweepArena.l2 k roots roots x9 (m : Int) t 0 a) (fun k => ?_) (ev_bind h1 (main a.length 0 x9 (by omega) hl (fun i hi => ?_)))
    · simp only [spec_SweepArena.l1]
      rw [if_pos (by omega), if_pos (by omega), rd_nat]
    · rw [if_pos (by omega), h3 i hi]
theorem sSweep_ev (a : List S88) (roots : List Int) (hn : a.length ≤ 1048576) (hx : ∀ x ∈ a, x.f1.length ≤ 1048576) (hr : roots.length ≤ 1048576) : Ev (fun k => spec_SweepArena.f k a roots) (sweepB a roots) := by
  have j1 : ∀ q : Bool, (q = true → arenaB a = true ∧ (roots.all fun r => decide (r = -1) || rootB a r) = true) → Ev (fun k => spec_SweepArena.j1 k roots roots q a) (if q = true then swRes roots (swAll a (keepB a roots) a.length 0 (List.replicate a.length 0) []) else (a, roots)) := by
    intro q hq
    cases q with
    | false =>
      refine Ev.step (f := fun k => (spec_l11Copy.f k a).bind fun t => some (t, roots)) (fun k => ?_) (ev_bind (sCopyArena_ev a hn hx) (Ev.now _))
      simp only [spec_SweepArena.j1]
      rw [if_neg (by decide)]
    | true =>
      obtain ⟨h1, h2⟩ := hq rfl
      rw [if_pos rfl]
      refine Ev.step (fun k => ?_) (sSweep1 a roots hn hr h1 h2 roots.length 0 (List.replicate a.length false) (by omega) (by simp) (fun i hi => ?_))
      · simp only [spec_SweepArena.j1]
        rw [if_pos trivial, if_pos (by omega), Int.toNat_natCast, if_pos (by omega)]; rfl
      · rw [getD_rep, List.drop_zero]; rfl
  have l0 : ∀ (d m : Nat) (q : Bool), m + d = roots.length → (q = true → arenaB a = true ∧ ∀ r ∈ roots.take m, (decide (r = -1) || rootB a r) = true) →
      Ev (fun k => spec_SweepArena.l0 k roots roots q (m : Int) a) (if (q && (roots.drop m).all fun r => decide (r = -1) || rootB a r) = true then swRes roots (swAll a (keepB a roots) a.length 0 (List.replicate a.length 0) []) else (a, roots)) := by
    intro d
    induction d with
    | zero =>
      intro m q hm hq
      rw [List.drop_eq_nil_of_le (by omega), List.all_nil, Bool.and_true]
      refine Ev.step (fun k => ?_) (j1 q fun h => ⟨(hq h).1, ?_⟩)
      · simp only [spec_SweepArena.l0]
        rw [if_neg (by omega)]
      · have := (hq h).2
        rw [List.take_of_length_le (by omega)] at this
        rw [List.all_eq_true]
        exact this
    | succ d ih =>
      intro m q hm hq
      have hml : m < roots.length := by omega
      cases q with
      | false =>
        rw [Bool.false_and]
        refine Ev.step (fun k => ?_) (j1 false (fun h => absurd h (by decide)))
        simp only [spec_SweepArena.l0]
        rw [if_pos (by omega), if_neg (by decide)]
      | true =>
        rw [Bool.true_and, drop_cons 0 hml, List.all_cons]
        refine Ev.step (fun k => ?_) (ih (m + 1) (decide (roots.getD m 0 = -1) || rootB a (roots.getD m 0)) (by omega) fun h => ⟨(hq rfl).1, fun r hr2 => ?_⟩)
        · simp only [spec_SweepArena.l0]
          rw [if_pos (by omega), if_pos trivial, if_pos (by omega), rd_nat, sRoot_eq a _ (by omega), Option.bind_some, wsucc (n := roots.length) hml (by omega)]
        · rw [List.take_succ_eq_append_getElem hml, List.mem_append, List.mem_singleton] at hr2
          rcases hr2 with h5 | h5
          · exact (hq rfl).2 r h5
          · rw [h5]
            rw [List.getD_eq_getElem?_getD, List.getElem?_eq_getElem hml] at h
            exact h
  unfold spec_SweepArena.f sweepB sweepOk
  simp only [Option.bind_some, List.nil_append]
  simp only [if_pos (show ([] : List Int).length + roots.length < 17592186044416 by rw [List.length_nil]; omega)]
  have h := l0 roots.length 0 (arenaB a) (by omega) (fun h => ⟨h, by simp⟩)
  rw [List.drop_zero] at h
  exact ev_bind (sArena_ev a (by omega)) h
end Go.Proofs.Yteideicglgpfiaa.Pu

/- What the functions on stores answer: sizes, copies, comparison, the place of a volume, a sector's chunk. -/
namespace Go.Proofs.Yteideicglgpfiaa.Pu
set_option linter.unusedVariables false
set_option linter.unusedSimpArgs false
open Go.RowKit Go.Proofs.Yteideicglgpfiaa.PK Go.Proofs.YteideicglgpfiaaW.PrintWords

theorem rdIV_nat (l : List S53) (i : Nat) : rd_T53 l (i : Int) = l.getD i z53 := rfl
end Go.Proofs.Yteideicglgpfiaa.Pu

/- When a store is right; the program's and the reference's StoreOk answer alike. -/
namespace Go.Proofs.Yteideicglgpfiaa.Pu
set_option linter.unusedVariables false
set_option linter.unusedSimpArgs false
open Go.RowKit Go.Proofs.Yteideicglgpfiaa.PK Go.Proofs.YteideicglgpfiaaW.PrintWords

def rootsB (v : List S53) : List Int := v.map fun x => x.f1
theorem rootsB_get (v : List S53) {i : Nat} (h : i < v.length) : (rootsB v).getD i 0 = (v.getD i z53).f1 := by
  unfold rootsB
  rw [List.getD_eq_getElem?_getD, List.getD_eq_getElem?_getD, List.getElem?_map, List.getElem?_eq_getElem h]; rfl
def volOk (v : List S53) (a : List S88) (i : Nat) : Bool :=
  decide (1 ≤ (v.getD i z53).f0 ∧ (v.getD i z53).f0 ≤ 9) && ((decide (i = 0) || !decide ((v.getD (i - 1) z53).f0 ≥ (v.getD i z53).f0)) && (decide ((v.getD i z53).f1 = -1) || rootB a (v.getD i z53).f1))
def gB (a : List S88) (r : Int) (s : Nat) : Int := if r < 0 then 0 else numB a r (s : Int)
def getOk (a : List S88) (n r : Int) : Bool := (List.range' 0 16).all fun s => !decide (gB a r s ≥ n)
def leafOk (a : List S88) (n : Int) (j : Nat) : Bool := (a.getD j z88).f1.all fun x => !((a.getD j z88).f0 && decide (x ≥ n))
def specOk (v : List S53) (a : List S88) (n : Int) : Bool :=
  (List.range' 0 v.length).all (fun i => volOk v a i && getOk a n (v.getD i z53).f1) && decide ((sweepB a (rootsB v)).1.length = a.length)
def implOk (v : List S53) (a : List S88) (n : Int) : Bool :=
  (List.range' 0 v.length).all (volOk v a) && (List.range' 0 a.length).all fun j => keepB a (rootsB v) j && leafOk a n j

theorem gB_eq (a : List S88) (r : Int) (s : Nat) (ha : arenaB a = true) (hr : (decide (r = -1) || rootB a r) = true) (hs : s < 16) : spec_l11Get.f a r (s : Int) = some (gB a r s) := by
  unfold gB
  by_cases h : r < 0
  · rw [if_pos h]; unfold spec_l11Get.f; rw [if_pos h]
  · rw [if_neg h]
    rw [Bool.or_eq_true, decide_eq_true_eq] at hr
    exact sGet_eq a r s ha (hr.resolve_left (by omega)) (by omega) (by omega)
theorem volOk_root {v : List S53} {a : List S88} {i : Nat} (h : volOk v a i = true) : (decide ((v.getD i z53).f1 = -1) || rootB a (v.getD i z53).f1) = true := by
  unfold volOk at h
  rw [Bool.and_eq_true, Bool.and_eq_true] at h
  exact h.2.2
theorem wpred {i : Nat} (h : 0 < i) (hn : i ≤ 9223372036854775807) : wrap64 ((i : Int) - 1) = ((i - 1 : Nat) : Int) := by
  rw [w64 (by omega) (by omega)]; omega
theorem sRoots_ev (v : List S53) (a : List S88) (n : Int) (hv : v.length ≤ 1048576) : Ev (fun k => spec_l12Roots.f k v a n) (rootsB v) := by
  have main : ∀ (d i : Nat) (acc : List Int), i + d = v.length → acc.length = i → Ev (fun k => spec_l12Roots.l0 k acc (i : Int) v a n) (acc ++ (rootsB v).drop i) := by
    intro d
    induction d with
    | zero => intro i acc hi hl; exact ev_some fun k => by simp only [spec_l12Roots.l0]; rw [if_neg (by omega), List.drop_eq_nil_of_le (by unfold rootsB; rw [List.length_map]; omega), List.append_nil]
    | succ d ih =>
      intro i acc hi hl
      have hil : i < v.length := by omega
      have h := ih (i + 1) (acc ++ [(v.getD i z53).f1]) (by omega) (by simp; omega)
      rw [List.append_assoc, List.singleton_append, ← rootsB_get v hil, ← drop_cons 0 (by unfold rootsB; rw [List.length_map]; omega)] at h
      refine Ev.step (fun k => ?_) h
      simp only [spec_l12Roots.l0]
      rw [if_pos (by omega), if_pos (by omega), if_pos (by omega), rdIV_nat, wsucc (n := v.length) hil (by omega), rootsB_get v hil]
  have h := main v.length 0 [] (by omega) rfl
  rw [List.nil_append, List.drop_zero] at h
  exact h
theorem sweep_len {a : List S88} {roots : List Int} (hs : sweepOk a roots = true) : (sweepB a roots).1.length = a.length ↔ ∀ j, j < a.length → keepB a roots j = true := by
  unfold sweepB
  rw [if_pos hs]
  show (swAll a (keepB a roots) a.length 0 (List.replicate a.length 0) []).2.length = a.length ↔ _
  rw [swAll_out, List.length_nil, Nat.zero_add]
  have e : (List.range' 0 a.length).length = a.length := List.length_range'
  constructor
  · intro h j hj
    exact List.length_filter_eq_length_iff.1 (by rw [h, e]) j (by rw [List.mem_range'_1]; omega)
  · intro h
    rw [List.length_filter_eq_length_iff.2 (fun j hj => h j (by rw [List.mem_range'_1] at hj; omega)), e]
theorem gB_val {a : List S88} {r : Int} (h : rootB a r = true) {q t : Nat} (hq : q < 4) (ht : t < 4) :
    gB a r (4 * q + t) = if (a.getD r.toNat z88).f1.getD q 0 < 0 then 0 else (a.getD ((a.getD r.toNat z88).f1.getD q 0).toNat z88).f1.getD t 0 := by
  have := root_lt h
  unfold gB numB
  rw [if_neg (by omega), show (((4 * q + t : Nat) : Int) / 4).toNat = q by omega, show (((4 * q + t : Nat) : Int) % 4).toNat = t by omega]
theorem mem_getD {l : List Int} {x : Int} (h : x ∈ l) : ∃ i, i < l.length ∧ l.getD i 0 = x := by
  obtain ⟨i, hi, e⟩ := List.getElem_of_mem h
  exact ⟨i, hi, by rw [List.getD_eq_getElem?_getD, List.getElem?_eq_getElem hi]; exact e⟩
theorem leaf_get (v : List S53) (a : List S88) (n : Int) (ha : arenaB a = true) (hn : 1 ≤ n) (hK : ∀ j, j < a.length → keepB a (rootsB v) j = true) :
    (∀ i, i < v.length → getOk a n (v.getD i z53).f1 = true) → (∀ j, j < a.length → leafOk a n j = true) := by
  intro h j hj
  unfold leafOk
  rw [List.all_eq_true]
  intro x hx
  cases hf : (a.getD j z88).f0 with
  | false => rw [Bool.false_and]; rfl
  | true =>
    have hk := hK j hj
    unfold keepB at hk
    rw [List.any_eq_true] at hk
    obtain ⟨r, hr, hk⟩ := hk
    obtain ⟨i, hi, e⟩ := mem_getD hr
    have hi2 : i < v.length := by unfold rootsB at hi; rw [List.length_map] at hi; exact hi
    rw [rootsB_get v hi2] at e
    have hg := h i hi2
    rw [e] at hg
    unfold keptB at hk
    rw [Bool.and_eq_true, Bool.or_eq_true, decide_eq_true_eq, decide_eq_true_eq] at hk
    obtain ⟨hb, hk⟩ := hk
    obtain ⟨r0, rl, rf⟩ := root_lt hb
    rcases hk with hk | hk
    · rw [show r.toNat = j by omega, hf] at rf
      exact absurd rf (by decide)
    · obtain ⟨q, hq, e2⟩ := mem_getD hk
      obtain ⟨t, ht, e3⟩ := mem_getD hx
      have h4 := (knot_of ha rl).1
      have h5 := (knot_of ha hj).1
      have hv := gB_val hb (q := q) (t := t) (by omega) (by omega)
      rw [e2, if_neg (by omega), Int.toNat_natCast, e3] at hv
      unfold getOk at hg
      rw [List.all_eq_true] at hg
      have h6 := hg (4 * q + t) (by rw [List.mem_range'_1]; omega)
      rw [hv] at h6
      rw [Bool.true_and]
      exact h6
theorem get_leaf (v : List S53) (a : List S88) (n : Int) (ha : arenaB a = true) (hn : 1 ≤ n) (hV : ∀ i, i < v.length → (decide ((v.getD i z53).f1 = -1) || rootB a (v.getD i z53).f1) = true) :
    (∀ j, j < a.length → leafOk a n j = true) → (∀ i, i < v.length → getOk a n (v.getD i z53).f1 = true) := by
  intro h i hi
  have hr := hV i hi
  generalize (v.getD i z53).f1 = r at hr ⊢
  unfold getOk
  rw [List.all_eq_true]
  intro s hs
  rw [List.mem_range'_1] at hs
  rw [Bool.or_eq_true, decide_eq_true_eq] at hr
  by_cases h0 : r < 0
  · unfold gB
    rw [if_pos h0, decide_eq_false (by omega)]; rfl
  · have hb := hr.resolve_left (by omega)
    obtain ⟨r0, rl, rf⟩ := root_lt hb
    have e := gB_val hb (q := s / 4) (t := s % 4) (by omega) (by omega)
    rw [show 4 * (s / 4) + s % 4 = s by omega] at e
    rcases kid_of ha rl rf (j := s / 4) (by omega) with h1 | ⟨h1, h2, h3⟩
    · rw [if_pos (by omega)] at e
      rw [e, decide_eq_false (by omega)]; rfl
    · rw [if_neg (by omega)] at e
      have hl := h ((a.getD r.toNat z88).f1.getD (s / 4) 0).toNat (by omega)
      have h5 := (knot_of ha (i := ((a.getD r.toNat z88).f1.getD (s / 4) 0).toNat) (by omega)).1
      unfold leafOk at hl
      rw [List.all_eq_true, h3] at hl
      have h6 := hl _ (getD_mem (i := s % 4) (z := 0) (by omega))
      rw [Bool.true_and] at h6
      rw [e]
      exact h6
theorem ok_eq (v : List S53) (a : List S88) (n : Int) (ha : arenaB a = true) (hn : 1 ≤ n) : specOk v a n = implOk v a n := by
  have mr : ∀ {P : Nat → Bool} {m : Nat}, (List.range' 0 m).all P = true ↔ ∀ i, i < m → P i = true := fun {P m} => by
    rw [List.all_eq_true]
    exact ⟨fun h i hi => h i (by rw [List.mem_range'_1]; omega), fun h i hi => h i (by rw [List.mem_range'_1] at hi; omega)⟩
  rw [Bool.eq_iff_iff]
  unfold specOk implOk
  rw [Bool.and_eq_true, Bool.and_eq_true, mr, mr, mr, decide_eq_true_eq]
  simp only [Bool.and_eq_true]
  have ok : (∀ i, i < v.length → volOk v a i = true) → sweepOk a (rootsB v) = true := fun h => by
    unfold sweepOk
    rw [ha, Bool.true_and, List.all_eq_true]
    intro r hr
    obtain ⟨i, hi, e⟩ := mem_getD hr
    have hi2 : i < v.length := by unfold rootsB at hi; rw [List.length_map] at hi; exact hi
    rw [rootsB_get v hi2] at e
    rw [← e]
    exact volOk_root (h i hi2)
  constructor
  · rintro ⟨h1, h2⟩
    have hV : ∀ i, i < v.length → volOk v a i = true := fun i hi => (h1 i hi).1
    have hK := (sweep_len (ok hV)).1 h2
    exact ⟨hV, fun j hj => ⟨hK j hj, leaf_get v a n ha hn hK (fun i hi => (h1 i hi).2) j hj⟩⟩
  · rintro ⟨hV, h2⟩
    exact ⟨fun i hi => ⟨hV i hi, get_leaf v a n ha hn (fun i hi => volOk_root (hV i hi)) (fun j hj => (h2 j hj).2) i hi⟩, (sweep_len (ok hV)).2 fun j hj => (h2 j hj).1⟩
def storeB (v : List S53) (a : List S88) (n : Int) : Bool := if (v.length : Int) > 3 then false else if arenaB a = true then (if 1 ≤ n ∧ n ≤ 1000000000 then implOk v a n else false) else false
end Go.Proofs.Yteideicglgpfiaa.Pu

/- What is put into a tree, as one function; the program's and the reference's PutAt answer it. -/
namespace Go.Proofs.Yteideicglgpfiaa.Pu
set_option linter.unusedVariables false
set_option linter.unusedSimpArgs false
open Go.RowKit Go.Proofs.Yteideicglgpfiaa.PK Go.Proofs.YteideicglgpfiaaW.PrintWords

def topB (a : List S88) (r : Int) : List Int := if r = -1 then [-1, -1, -1, -1] else (a.getD r.toNat z88).f1
def leafB (a : List S88) (r s : Int) : List Int := if 0 ≤ (topB a r).getD (s / 4).toNat 0 then (a.getD ((topB a r).getD (s / 4).toNat 0).toNat z88).f1 else List.replicate 4 0
def canPut (a : List S88) (r s n : Int) : Prop := arenaB a = true ∧ (r = -1 ∨ rootB a r = true) ∧ (0 ≤ s ∧ s ≤ 15) ∧ 0 ≤ n
instance (a : List S88) (r s n : Int) : Decidable (canPut a r s n) := by unfold canPut; infer_instance
def putB (a : List S88) (r s n : Int) : List S88 × Int :=
  if canPut a r s n then (a ++ [⟨true, (leafB a r s).set (s % 4).toNat n⟩, ⟨false, (topB a r).set (s / 4).toNat (a.length : Int)⟩], (a.length : Int) + 1) else (a, r)
theorem putB_no {a : List S88} {r s n : Int} (h : ¬ canPut a r s n) : putB a r s n = (a, r) := if_neg h
theorem putB_yes {a : List S88} {r s n : Int} {t l : List Int} (h : canPut a r s n) (ht : topB a r = t) (hl : leafB a r s = l) :
    putB a r s n = (a ++ [⟨true, l.set (s % 4).toNat n⟩, ⟨false, t.set (s / 4).toNat (a.length : Int)⟩], (a.length : Int) + 1) := by
  unfold putB; rw [if_pos h, ht, hl]
theorem none4 : ∀ j : Nat, j < 4 → ([-1, -1, -1, -1] : List Int).getD j 0 = -1 := by decide
theorem rd_toNat (l : List Int) (i : Int) : rd l i = l.getD i.toNat 0 := Eq.trans rfl rfl
theorem rdK_toNat (l : List S88) (i : Int) : rd_T88 l i = l.getD i.toNat z88 := Eq.trans rfl rfl
theorem rep4_len : (List.replicate 4 (0 : Int)).length = 4 := rfl
theorem leaf_new {a : List S88} {r s : Int} {t : List Int} (ht : topB a r = t) (h : ¬ 0 ≤ t.getD (s / 4).toNat 0) : leafB a r s = List.replicate 4 0 := by
  unfold leafB; rw [ht, if_neg h]
theorem leaf_old {a : List S88} {r s : Int} {t : List Int} (ht : topB a r = t) (h : 0 ≤ t.getD (s / 4).toNat 0) : leafB a r s = (a.getD (t.getD (s / 4).toNat 0).toNat z88).f1 := by
  unfold leafB; rw [ht, if_pos h]
theorem top_none {a : List S88} {r : Int} (h : r = -1) : topB a r = [-1, -1, -1, -1] := if_pos h
theorem top_some {a : List S88} {r : Int} (h : ¬ r = -1) : topB a r = (a.getD r.toNat z88).f1 := if_neg h
theorem putB_bound {a : List S88} {r s n : Int} (hn : a.length ≤ 1048576) (hx : ∀ x ∈ a, x.f1.length ≤ 1048576) : (putB a r s n).1.length ≤ 1048578 ∧ ∀ x ∈ (putB a r s n).1, x.f1.length ≤ 1048576 := by
  by_cases h : canPut a r s n
  · have top : (topB a r).length ≤ 1048576 := by
      by_cases h0 : r = -1
      · rw [top_none h0]; decide
      · rw [top_some h0]
        obtain ⟨_, h2, _⟩ := h
        obtain ⟨_, rl, _⟩ := root_lt (h2.resolve_left h0)
        exact hx _ (getD_mem rl)
    have leaf : (leafB a r s).length ≤ 1048576 := by
      unfold leafB
      split
      · by_cases hi : ((topB a r).getD (s / 4).toNat 0).toNat < a.length
        · exact hx _ (getD_mem hi)
        · rw [List.getD_eq_getElem?_getD, List.getElem?_eq_none (by omega)]; exact Nat.zero_le _
      · rw [List.length_replicate]; omega
    rw [putB_yes h rfl rfl]
    refine ⟨by simp only [List.length_append, List.length_cons, List.length_nil]; omega, fun x hx' => ?_⟩
    rcases List.mem_append.1 hx' with hx' | hx'
    · exact hx _ hx'
    · rcases List.mem_cons.1 hx' with rfl | hx'
      · show (List.set _ _ _).length ≤ _
        rw [List.length_set]; exact leaf
      · obtain rfl := List.mem_singleton.1 hx'
        show (List.set _ _ _).length ≤ _
        rw [List.length_set]; exact top
  · rw [putB_no h]; exact ⟨by show a.length ≤ _; omega, hx⟩
end Go.Proofs.Yteideicglgpfiaa.Pu

/- The numbers of all sectors of a tree, as one list; the program's and the reference's AllAt tell it. -/
namespace Go.Proofs.Yteideicglgpfiaa.Pu
set_option linter.unusedVariables false
set_option linter.unusedSimpArgs false
open Go.RowKit Go.Proofs.Yteideicglgpfiaa.PK Go.Proofs.YteideicglgpfiaaW.PrintWords

def allB (a : List S88) (r : Int) : List Int := (List.range' 0 16).map fun (i : Nat) => getB a r (i : Int)
theorem allB_len (a : List S88) (r : Int) : (allB a r).length = 16 := by simp [allB]
theorem allB_get (a : List S88) (r : Int) {i : Nat} (hi : i < 16) : (allB a r).getD i 0 = getB a r (i : Int) := by
  rw [List.getD_eq_getElem?_getD, List.getElem?_eq_getElem (by rw [allB_len]; exact hi)]
  simp [allB]
theorem iAllAt_ev (a : List S88) (r : Int) (hn : a.length ≤ 9223372036854775807) : Ev (fun k => impl_AllAt.f k a r) (allB a r) := by
  have main : ∀ (d i : Nat) (acc : List Int), i + d = 16 → acc.length = i → Ev (fun k => impl_AllAt.l0 k r acc (i : Int) a) (acc ++ (List.range' i d).map fun (i : Nat) => getB a r (i : Int)) := by
    intro d
    induction d with
    | zero => intro i acc hi hl; exact ev_some fun k => by simp only [impl_AllAt.l0]; rw [if_neg (by omega)]; simp
    | succ d ih =>
      intro i acc hi hl
      have h := ih (i + 1) (acc ++ [getB a r (i : Int)]) (by omega) (by simp; omega)
      rw [List.append_assoc, List.singleton_append] at h
      rw [List.range'_succ, List.map_cons]
      refine Ev.step (f := fun k => (impl_GetAt.f k a r (i : Int)).bind fun t => impl_AllAt.l0 k r (acc ++ [t]) ((i + 1 : Nat) : Int) a) (fun k => ?_) (ev_bind (iGetAt_ev a r i hn) h)
      simp only [impl_AllAt.l0]
      rw [if_pos (by omega), wsucc (n := 16) (by omega) (by omega)]
      simp only [if_pos (show acc.length < 17592186044416 by omega)]
  exact main 16 0 [] rfl rfl
theorem sAllAt_ev (a : List S88) (r : Int) (hn : a.length ≤ 9223372036854775807) : Ev (fun k => spec_AllAt.f k a r) (allB a r) := by
  have main : ∀ (d i : Nat) (acc : List Int), i + d = 16 → acc.length = i → Ev (fun k => spec_AllAt.l0 k r acc (i : Int) a) (acc ++ (List.range' i d).map fun (i : Nat) => getB a r (i : Int)) := by
    intro d
    induction d with
    | zero => intro i acc hi hl; exact ev_some fun k => by simp only [spec_AllAt.l0]; rw [if_neg (by omega)]; simp
    | succ d ih =>
      intro i acc hi hl
      have h := ih (i + 1) (acc ++ [getB a r (i : Int)]) (by omega) (by simp; omega)
      rw [List.append_assoc, List.singleton_append] at h
      rw [List.range'_succ, List.map_cons]
      refine Ev.step (f := fun k => (spec_GetAt.f k a r (i : Int)).bind fun t => spec_AllAt.l0 k r (acc ++ [t]) ((i + 1 : Nat) : Int) a) (fun k => ?_) (ev_bind (sGetAt_ev a r i hn) h)
      simp only [spec_AllAt.l0]
      rw [if_pos (by omega), wsucc (n := 16) (by omega) (by omega)]
      simp only [if_pos (show acc.length < 17592186044416 by omega)]
  exact main 16 0 [] rfl rfl
theorem drop_get {α : Type} {l : List α} {i : Nat} (z : α) (h : i < l.length) : l.drop i = l.getD i z :: l.drop (i + 1) := by
  rw [List.drop_eq_getElem_cons h, List.getD_eq_getElem?_getD, List.getElem?_eq_getElem h]; rfl
end Go.Proofs.Yteideicglgpfiaa.Pu

/- Trees: what is put into a tree is there, all else is as it was; a right arena stays right. -/
namespace Go.Proofs.Yteideicglgpfiaa.Pu
set_option linter.unusedVariables false
set_option linter.unusedSimpArgs false
open Go.RowKit Go.Proofs.Yteideicglgpfiaa.PK Go.Proofs.YteideicglgpfiaaW.PrintWords

theorem getD_app {α : Type} {a t : List α} {i : Nat} {z : α} (h : i < a.length) : (a ++ t).getD i z = a.getD i z := by
  rw [List.getD_eq_getElem?_getD, List.getD_eq_getElem?_getD, List.getElem?_append_left h]
theorem getD_app0 {α : Type} {a : List α} {x y z : α} : (a ++ [x, y]).getD a.length z = x := by
  rw [List.getD_eq_getElem?_getD, List.getElem?_append_right (by omega), Nat.sub_self]; rfl
theorem getD_app1 {α : Type} {a : List α} {x y z : α} : (a ++ [x, y]).getD (a.length + 1) z = y := by
  rw [List.getD_eq_getElem?_getD, List.getElem?_append_right (by omega), Nat.add_sub_cancel_left]; rfl
theorem getD_set' {α : Type} {l : List α} {c : Nat} (i : Nat) (v z : α) (hc : c < l.length) : (l.set c v).getD i z = if c = i then v else l.getD i z := by
  rw [List.getD_eq_getElem?_getD, List.getD_eq_getElem?_getD, List.getElem?_set]
  by_cases h : c = i
  · subst h; simp [hc]
  · rw [if_neg h, if_neg h]
theorem getD_rep' {α : Type} (n i : Nat) (z : α) : (List.replicate n z).getD i z = z := by
  rw [List.getD_eq_getElem?_getD, List.getElem?_replicate]
  by_cases h : i < n <;> simp [h]
theorem kidB_app {a t : List S88} {i : Nat} (hi : i ≤ a.length) (leaf : Bool) (n : Int) : kidB (a ++ t) i leaf n = kidB a i leaf n := by
  unfold kidB
  by_cases h : leaf = true
  · rw [if_pos h, if_pos h]
  · rw [if_neg h, if_neg h]
    by_cases hk : 0 ≤ n ∧ n ≤ (i : Int) - 1
    · rw [getD_app (by omega)]
    · rw [decide_eq_false hk, Bool.false_and, Bool.false_and]
theorem knotB_app {a t : List S88} {i : Nat} (hi : i ≤ a.length) (x : S88) : knotB (a ++ t) i x = knotB a i x := by
  unfold knotB; rw [show kidB (a ++ t) i x.f0 = kidB a i x.f0 from funext fun n => kidB_app hi _ _]
theorem arenaB_iff {a : List S88} : arenaB a = true ↔ ∀ i, i < a.length → knotB a i (a.getD i z88) = true := by
  unfold arenaB
  rw [List.all_eq_true]
  constructor
  · intro h i hi; exact h i (by simp; omega)
  · intro h i hi; simp at hi; exact h i (by omega)
theorem knotB_iff {a : List S88} {i : Nat} {x : S88} : knotB a i x = true ↔ x.f1.length = 4 ∧ ∀ n ∈ x.f1, kidB a i x.f0 n = true := by
  unfold knotB; rw [Bool.and_eq_true, decide_eq_true_eq, List.all_eq_true]
theorem kid_leaf {a : List S88} {i : Nat} {n : Int} : kidB a i true n = true ↔ 0 ≤ n := by
  unfold kidB; rw [if_pos rfl, decide_eq_true_eq]
theorem kid_top {a : List S88} {i : Nat} {n : Int} : kidB a i false n = true ↔ n = -1 ∨ ((0 ≤ n ∧ n ≤ (i : Int) - 1) ∧ (a.getD n.toNat z88).f0 = true) := by
  unfold kidB; rw [if_neg (by decide), Bool.or_eq_true, Bool.and_eq_true, decide_eq_true_eq, decide_eq_true_eq]
/-- What is put on: the knots of a tree are right. -/
theorem top_right {a : List S88} {r : Int} (ha : arenaB a = true) (hr : r = -1 ∨ rootB a r = true) : (topB a r).length = 4 ∧ ∀ n ∈ topB a r, kidB a a.length false n = true := by
  by_cases h0 : r = -1
  · rw [top_none h0]
    refine ⟨rfl, fun n hn => ?_⟩
    have : n = -1 := by simpa using hn
    exact kid_top.2 (.inl this)
  · obtain ⟨r0, rl, rf⟩ := root_lt (hr.resolve_left h0)
    obtain ⟨h4, hk⟩ := knot_of ha rl
    rw [top_some h0]
    refine ⟨h4, fun n hn => ?_⟩
    have h := hk n hn
    rw [rf] at h
    rcases kid_top.1 h with h | ⟨h1, h2⟩
    · exact kid_top.2 (.inl h)
    · exact kid_top.2 (.inr ⟨by omega, h2⟩)
theorem top_kid {a : List S88} {r : Int} (ha : arenaB a = true) (hr : r = -1 ∨ rootB a r = true) {j : Nat} (hj : j < 4) : (topB a r).getD j 0 = -1 ∨ ((0 ≤ (topB a r).getD j 0 ∧ (topB a r).getD j 0 < (a.length : Int)) ∧ (a.getD ((topB a r).getD j 0).toNat z88).f0 = true) := by
  obtain ⟨h4, hk⟩ := top_right ha hr
  rcases kid_top.1 (hk _ (getD_mem (i := j) (z := 0) (by omega))) with h | ⟨h1, h2⟩
  · exact .inl h
  · exact .inr ⟨by omega, h2⟩
theorem leaf_right {a : List S88} {r s : Int} (ha : arenaB a = true) (hr : r = -1 ∨ rootB a r = true) (h0 : 0 ≤ s) (h1 : s ≤ 15) : (leafB a r s).length = 4 ∧ ∀ n ∈ leafB a r s, 0 ≤ n := by
  unfold leafB
  split
  · rename_i h
    rcases top_kid ha hr (j := (s / 4).toNat) (by omega) with hk | ⟨hk, hf⟩
    · omega
    · obtain ⟨h4, hn⟩ := knot_of ha (i := ((topB a r).getD (s / 4).toNat 0).toNat) (by omega)
      rw [hf] at hn
      exact ⟨h4, fun n h => kid_leaf.1 (hn n h)⟩
  · refine ⟨rfl, fun n hn => ?_⟩
    have := (List.mem_replicate.1 hn).2
    omega
theorem put_eq {a : List S88} {r s n : Int} (h : canPut a r s n) : putB a r s n = (a ++ [⟨true, (leafB a r s).set (s % 4).toNat n⟩, ⟨false, (topB a r).set (s / 4).toNat (a.length : Int)⟩], (a.length : Int) + 1) := putB_yes h rfl rfl
theorem put_len {a : List S88} {r s n : Int} (h : canPut a r s n) : (putB a r s n).1.length = a.length + 2 := by rw [put_eq h]; simp
theorem put_root {a : List S88} {r s n : Int} (h : canPut a r s n) : (putB a r s n).2 = (a.length : Int) + 1 := by rw [put_eq h]
theorem put_arena {a : List S88} {r s n : Int} (h : canPut a r s n) : arenaB (putB a r s n).1 = true := by
  obtain ⟨ha, hr, ⟨h0, h1⟩, hn⟩ := id h
  obtain ⟨t4, tk⟩ := top_right ha hr
  obtain ⟨l4, lk⟩ := leaf_right ha hr h0 h1
  rw [put_eq h]
  rw [arenaB_iff]
  intro i hi
  have hi : i < a.length + 2 := by simpa using hi
  by_cases hc : i < a.length
  · rw [getD_app hc, knotB_app (by omega)]
    exact arenaB_iff.1 ha i hc
  by_cases he : i = a.length
  · subst he
    rw [getD_app0, knotB_app (Nat.le_refl _), knotB_iff]
    refine ⟨by show (List.set _ _ _).length = 4; rw [List.length_set, l4], fun x hx => kid_leaf.2 ?_⟩
    rcases List.mem_or_eq_of_mem_set hx with hx | hx
    · exact lk x hx
    · omega
  · obtain rfl : i = a.length + 1 := by omega
    rw [getD_app1, knotB_iff]
    refine ⟨by show (List.set _ _ _).length = 4; rw [List.length_set, t4], fun x hx => kid_top.2 ?_⟩
    rcases List.mem_or_eq_of_mem_set hx with hx | hx
    · rcases kid_top.1 (tk x hx) with hx | ⟨h5, h6⟩
      · exact .inl hx
      · exact .inr ⟨by omega, by rw [getD_app (by omega)]; exact h6⟩
    · refine .inr ⟨by omega, ?_⟩
      rw [hx, Int.toNat_natCast, getD_app0]
theorem root_app {a t : List S88} {x : Int} (h : rootB a x = true) : rootB (a ++ t) x = true := by
  obtain ⟨h0, h1, h2⟩ := root_lt h
  unfold rootB
  rw [getD_app h1, h2, decide_eq_true (by simp only [List.length_append]; omega)]; rfl
theorem put_keeps {a : List S88} {r s n x : Int} (h : canPut a r s n) (hx : rootB a x = true) : rootB (putB a r s n).1 x = true := by
  rw [put_eq h]; exact root_app hx
theorem put_new {a : List S88} {r s n : Int} (h : canPut a r s n) : rootB (putB a r s n).1 (putB a r s n).2 = true := by
  rw [put_eq h]
  unfold rootB
  rw [show ((a.length : Int) + 1).toNat = a.length + 1 by omega, getD_app1, decide_eq_true (by simp only [List.length_append, List.length_cons, List.length_nil]; omega)]; rfl
theorem get_root {a : List S88} {r i : Int} (ha : arenaB a = true) (hr : rootB a r = true) (h0 : 0 ≤ i) (h1 : i ≤ 15) : getB a r i = numB a r i := if_pos ⟨⟨h0, h1⟩, hr, ha⟩
theorem get_none {a : List S88} {r i : Int} (hr : r = -1) : getB a r i = 0 := if_neg fun h => by have := (root_lt h.2.1).1; omega
/-- A number of a tree, by its top. -/
theorem get_top {a : List S88} {r i : Int} (ha : arenaB a = true) (hr : r = -1 ∨ rootB a r = true) (h0 : 0 ≤ i) (h1 : i ≤ 15) : getB a r i = if (topB a r).getD (i / 4).toNat 0 < 0 then 0 else (a.getD ((topB a r).getD (i / 4).toNat 0).toNat z88).f1.getD (i % 4).toNat 0 := by
  by_cases h : r = -1
  · rw [get_none h, top_none h, none4 _ (by omega), if_pos (by decide)]
  · rw [get_root ha (hr.resolve_left h) h0 h1, top_some h]; rfl
theorem get_out {a : List S88} {r i : Int} (h : ¬ (0 ≤ i ∧ i ≤ 15)) : getB a r i = 0 := if_neg fun g => h g.1
theorem get_app {a t : List S88} {x i : Int} (ha : arenaB a = true) (hb : arenaB (a ++ t) = true) (hx : x = -1 ∨ rootB a x = true) : getB (a ++ t) x i = getB a x i := by
  by_cases hi : 0 ≤ i ∧ i ≤ 15
  · by_cases h : x = -1
    · rw [get_none h, get_none h]
    · have hr := hx.resolve_left h
      obtain ⟨r0, rl, rf⟩ := root_lt hr
      rw [get_root hb (root_app hr) hi.1 hi.2, get_root ha hr hi.1 hi.2]
      unfold numB
      rw [getD_app rl]
      rcases kid_of ha rl rf (j := (i / 4).toNat) (by omega) with hk | ⟨k0, k1, _⟩
      · rw [hk, if_pos (by decide), if_pos (by decide)]
      · rw [if_neg (by omega), if_neg (by omega), getD_app (by omega)]
  · rw [get_out hi, get_out hi]
/-- All other trees are as they were. -/
theorem put_old {a : List S88} {r s n x i : Int} (h : canPut a r s n) (hx : x = -1 ∨ rootB a x = true) : getB (putB a r s n).1 x i = getB a x i := by
  have hb := put_arena h
  rw [put_eq h] at hb ⊢
  exact get_app h.1 hb hx
/-- What is put is there; all else of the tree is as it was. -/
theorem put_get {a : List S88} {r s n i : Int} (h : canPut a r s n) (h0 : 0 ≤ i) (h1 : i ≤ 15) : getB (putB a r s n).1 (putB a r s n).2 i = if i = s then n else getB a r i := by
  have hb := put_arena h
  have hq := put_new h
  obtain ⟨ha, hr, ⟨s0, s1⟩, hn⟩ := id h
  obtain ⟨t4, _⟩ := top_right ha hr
  obtain ⟨l4, _⟩ := leaf_right ha hr s0 s1
  rw [get_root hb hq h0 h1, get_top ha hr h0 h1]
  rw [put_eq h]
  unfold numB
  show (if ((a ++ _).getD ((a.length : Int) + 1).toNat z88).f1.getD _ 0 < 0 then (0 : Int) else _) = _
  rw [show ((a.length : Int) + 1).toNat = a.length + 1 by omega, getD_app1]
  simp only
  rw [getD_set' _ _ _ (by omega)]
  by_cases hq : (s / 4).toNat = (i / 4).toNat
  · rw [if_pos hq, if_neg (by omega), Int.toNat_natCast, getD_app0]
    simp only
    rw [getD_set' _ _ _ (by omega)]
    by_cases hm : (s % 4).toNat = (i % 4).toNat
    · rw [if_pos hm, if_pos (by omega)]
    · rw [if_neg hm, if_neg (by omega)]
      unfold leafB
      rw [hq]
      by_cases hk : 0 ≤ (topB a r).getD (i / 4).toNat 0
      · rw [if_pos hk, if_neg (by omega)]
      · rw [if_neg hk, if_pos (by omega), getD_rep']
  · rw [if_neg hq, if_neg (show ¬ i = s by omega)]
    rcases top_kid ha hr (j := (i / 4).toNat) (by omega) with hk | ⟨hk, _⟩
    · rw [hk, if_pos (by decide), if_pos (by decide)]
    · rw [if_neg (by omega), if_neg (by omega), getD_app (by omega)]
theorem allB_ext {a b : List S88} {r q : Int} (h : ∀ i : Int, 0 ≤ i → i ≤ 15 → getB a r i = getB b q i) : allB a r = allB b q := by
  unfold allB
  refine List.map_congr_left fun i hi => h i (by omega) ?_
  simp at hi; omega
end Go.Proofs.Yteideicglgpfiaa.Pu

/- What a sweep leaves: a right arena with the same trees; swept again it is the same. -/
namespace Go.Proofs.Yteideicglgpfiaa.Pu
set_option linter.unusedVariables false
set_option linter.unusedSimpArgs false
open Go.RowKit Go.Proofs.Yteideicglgpfiaa.PK Go.Proofs.YteideicglgpfiaaW.PrintWords

/-- How many knots below a place are kept. -/
def kcnt (K : Nat → Bool) : Nat → Nat
  | 0 => 0
  | i + 1 => if K i = true then kcnt K i + 1 else kcnt K i
theorem kcnt_le (K : Nat → Bool) : ∀ i, kcnt K i ≤ i
  | 0 => Nat.le_refl _
  | i + 1 => by
    have h := kcnt_le K i
    show (if K i = true then kcnt K i + 1 else kcnt K i) ≤ i + 1
    split <;> omega
theorem kcnt_yes {K : Nat → Bool} {i : Nat} (h : K i = true) : kcnt K (i + 1) = kcnt K i + 1 := by
  show (if K i = true then kcnt K i + 1 else kcnt K i) = _
  rw [if_pos h]
theorem kcnt_no {K : Nat → Bool} {i : Nat} (h : ¬ K i = true) : kcnt K (i + 1) = kcnt K i := by
  show (if K i = true then kcnt K i + 1 else kcnt K i) = _
  rw [if_neg h]
theorem kcnt_mono (K : Nat → Bool) {i j : Nat} (h : i ≤ j) : kcnt K i ≤ kcnt K j := by
  induction j with
  | zero => obtain rfl : i = 0 := by omega
            exact Nat.le_refl _
  | succ j ih =>
    by_cases e : i = j + 1
    · subst e; exact Nat.le_refl _
    · have := ih (by omega)
      by_cases hk : K j = true
      · rw [kcnt_yes hk]; omega
      · rw [kcnt_no hk]; exact this
theorem kcnt_lt {K : Nat → Bool} {i j : Nat} (hk : K i = true) (h : i < j) : kcnt K i < kcnt K j := by
  have h1 := kcnt_mono K (show i + 1 ≤ j from h)
  rw [kcnt_yes hk] at h1
  exact h1
theorem kcnt_inj {K : Nat → Bool} {i j : Nat} (hi : K i = true) (hj : K j = true) (h : kcnt K i = kcnt K j) : i = j := by
  rcases Nat.lt_trichotomy i j with h1 | h1 | h1
  · have := kcnt_lt hi h1; omega
  · exact h1
  · have := kcnt_lt hj h1; omega
theorem kcnt_find (K : Nat → Bool) : ∀ (n m : Nat), m < kcnt K n → ∃ j, j < n ∧ K j = true ∧ kcnt K j = m
  | 0, m, h => absurd h (Nat.not_lt_zero _)
  | n + 1, m, h => by
    by_cases hk : K n = true
    · rw [kcnt_yes hk] at h
      by_cases e : m = kcnt K n
      · exact ⟨n, by omega, hk, e.symm⟩
      · obtain ⟨j, h1, h2, h3⟩ := kcnt_find K n m (by omega)
        exact ⟨j, by omega, h2, h3⟩
    · rw [kcnt_no hk] at h
      obtain ⟨j, h1, h2, h3⟩ := kcnt_find K n m h
      exact ⟨j, by omega, h2, h3⟩
theorem kcnt_all {K : Nat → Bool} : ∀ (n : Nat), (∀ j, j < n → K j = true) → kcnt K n = n
  | 0, _ => rfl
  | n + 1, h => by rw [kcnt_yes (h n (by omega)), kcnt_all n fun j hj => h j (by omega)]
/-- Where a kid goes, and a knot. -/
def goB (K : Nat → Bool) (x : Int) : Int := if x ≥ 0 then (kcnt K x.toNat : Int) else x
def goK (K : Nat → Bool) (x : S88) : S88 := ⟨x.f0, if x.f0 = true then x.f1 else x.f1.map (goB K)⟩
theorem sw_spec (a : List S88) (K : Nat → Bool) (hK : ∀ j, j < a.length → K j = true → (a.getD j z88).f0 = false → ∀ n ∈ (a.getD j z88).f1, 0 ≤ n → n.toNat < j ∧ K n.toNat = true) :
    ∀ (d i : Nat) (pos : List Int) (out : List S88), i + d = a.length → pos.length = a.length → out.length = kcnt K i → (∀ j, j < i → K j = true → pos.getD j 0 = (kcnt K j : Int)) → (∀ j, j < i → K j = true → out.getD (kcnt K j) z88 = goK K (a.getD j z88)) →
      (swAll a K d i pos out).1.length = a.length ∧ (swAll a K d i pos out).2.length = kcnt K a.length ∧ (∀ j, j < a.length → K j = true → (swAll a K d i pos out).1.getD j 0 = (kcnt K j : Int)) ∧ ∀ j, j < a.length → K j = true → (swAll a K d i pos out).2.getD (kcnt K j) z88 = goK K (a.getD j z88) := by
  intro d
  induction d with
  | zero =>
    intro i pos out hi hp ho h1 h2
    obtain rfl : i = a.length := by omega
    exact ⟨hp, ho, h1, h2⟩
  | succ d ih =>
    intro i pos out hi hp ho h1 h2
    unfold swAll
    by_cases hk : K i = true
    · rw [if_pos hk]
      refine ih (i + 1) _ _ (by omega) (by rw [List.length_set]; exact hp) (by rw [kcnt_yes hk]; simp only [List.length_append, List.length_cons, List.length_nil]; omega) (fun j hj hkj => ?_) (fun j hj hkj => ?_)
      · rw [getD_set _ _ _ (by omega)]
        by_cases e : j = i
        · subst e; rw [if_pos rfl, ho]
        · rw [if_neg e]; exact h1 j (by omega) hkj
      · by_cases e : j = i
        · subst e
          rw [← ho, List.getD_eq_getElem?_getD, List.getElem?_append_right (Nat.le_refl _), Nat.sub_self]
          show (⟨(a.getD j z88).f0, swKids (a.getD j z88).f0 pos (a.getD j z88).f1⟩ : S88) = goK K (a.getD j z88)
          unfold goK swKids
          congr 1
          by_cases hf : (a.getD j z88).f0 = true
          · rw [if_pos hf, if_pos hf]
          · rw [if_neg hf, if_neg hf]
            refine List.map_congr_left fun n hn => ?_
            unfold movB goB
            by_cases h0 : n ≥ 0
            · rw [if_pos h0, if_pos h0]
              obtain ⟨h5, h6⟩ := hK j (by omega) hk (Bool.eq_false_iff.mpr hf) n hn h0
              exact h1 _ h5 h6
            · rw [if_neg h0, if_neg h0]
        · have := kcnt_lt hkj (show j < i by omega)
          rw [getD_app (by omega)]
          exact h2 j (by omega) hkj
    · rw [if_neg hk]
      refine ih (i + 1) pos out (by omega) hp (by rw [kcnt_no hk]; exact ho) (fun j hj hkj => ?_) (fun j hj hkj => ?_)
      · by_cases e : j = i
        · subst e; exact absurd hkj hk
        · exact h1 j (by omega) hkj
      · by_cases e : j = i
        · subst e; exact absurd hkj hk
        · exact h2 j (by omega) hkj
theorem keep_iff {a : List S88} {roots : List Int} {j : Nat} : keepB a roots j = true ↔ ∃ r ∈ roots, rootB a r = true ∧ ((j : Int) = r ∨ (j : Int) ∈ (a.getD r.toNat z88).f1) := by
  unfold keepB keptB
  rw [List.any_eq_true]
  constructor
  · rintro ⟨r, h1, h2⟩
    rw [Bool.and_eq_true, Bool.or_eq_true, decide_eq_true_eq, decide_eq_true_eq] at h2
    exact ⟨r, h1, h2⟩
  · rintro ⟨r, h1, h2⟩
    refine ⟨r, h1, ?_⟩
    rw [Bool.and_eq_true, Bool.or_eq_true, decide_eq_true_eq, decide_eq_true_eq]
    exact h2
/-- The kids of a knot that is no leaf, in a right arena. -/
theorem kid_mem {a : List S88} (ha : arenaB a = true) {j : Nat} (hj : j < a.length) (hf : (a.getD j z88).f0 = false) {n : Int} (hn : n ∈ (a.getD j z88).f1) : n = -1 ∨ ((0 ≤ n ∧ n.toNat < j) ∧ (a.getD n.toNat z88).f0 = true) := by
  have h := (knot_of ha hj).2 n hn
  rw [hf] at h
  rcases kid_top.1 h with h | ⟨h1, h2⟩
  · exact .inl h
  · exact .inr ⟨⟨by omega, by omega⟩, h2⟩
theorem keep_kids {a : List S88} {roots : List Int} (ha : arenaB a = true) : ∀ j, j < a.length → keepB a roots j = true → (a.getD j z88).f0 = false → ∀ n ∈ (a.getD j z88).f1, 0 ≤ n → n.toNat < j ∧ keepB a roots n.toNat = true := by
  intro j hj hk hf n hn h0
  rcases kid_mem ha hj hf hn with h | ⟨⟨_, h1⟩, h2⟩
  · omega
  · refine ⟨h1, ?_⟩
    obtain ⟨r, hr, hrb, h3⟩ := keep_iff.1 hk
    obtain ⟨r0, rl, rf⟩ := root_lt hrb
    rcases h3 with h3 | h3
    · refine keep_iff.2 ⟨r, hr, hrb, .inr ?_⟩
      rw [show ((n.toNat : Nat) : Int) = n by omega, ← h3, Int.toNat_natCast]
      exact hn
    · rcases kid_mem ha rl rf h3 with h | ⟨_, h4⟩
      · omega
      · rw [Int.toNat_natCast, hf] at h4; cases h4
theorem getD_map {f : Int → Int} (h0 : f 0 = 0) : ∀ (l : List Int) (i : Nat), (l.map f).getD i 0 = f (l.getD i 0)
  | [], i => by simp [h0]
  | x :: l, 0 => rfl
  | x :: l, i + 1 => by
    show (l.map f).getD i 0 = f (l.getD i 0)
    exact getD_map h0 l i
theorem getD_map' {f : Int → Int} {l : List Int} {i : Nat} (h : i < l.length) : (l.map f).getD i 0 = f (l.getD i 0) := by
  rw [List.getD_eq_getElem?_getD, List.getD_eq_getElem?_getD, List.getElem?_map, List.getElem?_eq_getElem h]; rfl
/-- All that a sweep of right roots leaves. -/
theorem swept {a : List S88} {roots : List Int} (ha : arenaB a = true) (hr : ∀ x ∈ roots, x = -1 ∨ rootB a x = true) :
    arenaB (sweepB a roots).1 = true ∧ (sweepB a roots).2.length = roots.length ∧ (sweepB a roots).1.length ≤ a.length ∧ (∀ i, i < roots.length → allB (sweepB a roots).1 ((sweepB a roots).2.getD i 0) = allB a (roots.getD i 0)) ∧
      (∀ x ∈ (sweepB a roots).2, x = -1 ∨ rootB (sweepB a roots).1 x = true) ∧ ∀ m, m < (sweepB a roots).1.length → keepB (sweepB a roots).1 (sweepB a roots).2 m = true := by
  have hok : sweepOk a roots = true := by
    unfold sweepOk
    rw [ha, Bool.true_and, List.all_eq_true]
    intro x hx
    rw [Bool.or_eq_true, decide_eq_true_eq]
    exact hr x hx
  have hs := sw_spec a (keepB a roots) (keep_kids ha) a.length 0 (List.replicate a.length 0) [] (by omega) (by simp) rfl (fun j hj => absurd hj (Nat.not_lt_zero _)) (fun j hj => absurd hj (Nat.not_lt_zero _))
  have e : sweepB a roots = ((swAll a (keepB a roots) a.length 0 (List.replicate a.length 0) []).2, roots.map (movB (swAll a (keepB a roots) a.length 0 (List.replicate a.length 0) []).1)) := if_pos hok
  rw [e]
  have hkk := keep_kids (roots := roots) ha
  have hkr : ∀ r ∈ roots, rootB a r = true → keepB a roots r.toNat = true := fun r h1 h2 => keep_iff.2 ⟨r, h1, h2, .inl (by have := (root_lt h2).1; omega)⟩
  have hki := fun (j : Nat) => keep_iff (a := a) (roots := roots) (j := j)
  generalize swAll a (keepB a roots) a.length 0 (List.replicate a.length 0) [] = W at hs
  generalize keepB a roots = K at hs hkk hkr hki
  obtain ⟨P, b⟩ := W
  obtain ⟨hp, hb, h1, h2⟩ := hs
  simp only at hp hb h1 h2 ⊢
  have lt : ∀ j, j < a.length → K j = true → kcnt K j < b.length := fun j hj hk => by rw [hb]; exact kcnt_lt hk hj
  have right : arenaB b = true := by
    rw [arenaB_iff]
    intro m hm
    obtain ⟨j, hj, hk, rfl⟩ := kcnt_find K a.length m (by omega)
    rw [h2 j hj hk, knotB_iff]
    obtain ⟨h4, hn⟩ := knot_of ha hj
    unfold goK
    by_cases hf : (a.getD j z88).f0 = true
    · simp only [hf, if_true] at hn ⊢
      exact ⟨h4, fun n hn2 => kid_leaf.2 (kid_leaf.1 (hn n hn2))⟩
    · have hf := Bool.eq_false_iff.mpr hf
      simp only [hf, Bool.false_eq_true, if_false]
      refine ⟨by rw [List.length_map]; exact h4, fun x hx => kid_top.2 ?_⟩
      obtain ⟨n, hn2, rfl⟩ := List.mem_map.1 hx
      rcases kid_mem ha hj hf hn2 with h | ⟨⟨h5, h6⟩, h7⟩
      · left; unfold goB; rw [if_neg (by omega), h]
      · right
        have hkn := (hkk j hj hk hf n hn2 h5).2
        have hlt := kcnt_lt hkn h6
        unfold goB
        rw [if_pos h5, Int.toNat_natCast, h2 _ (by omega) hkn]
        exact ⟨by omega, h7⟩
  have root : ∀ r, r ∈ roots → rootB a r = true → movB P r = (kcnt K r.toNat : Int) ∧ rootB b (kcnt K r.toNat : Int) = true := by
    intro r h3 h4
    obtain ⟨r0, rl, rf⟩ := root_lt h4
    have hk := hkr r h3 h4
    have hl := lt _ rl hk
    refine ⟨by unfold movB; rw [if_pos r0]; exact h1 _ rl hk, ?_⟩
    unfold rootB
    rw [Int.toNat_natCast, h2 _ rl hk, decide_eq_true (by omega)]
    show (true && !(a.getD r.toNat z88).f0) = true
    rw [rf]; rfl
  have none : movB P (-1) = -1 := rfl
  refine ⟨right, by rw [List.length_map], by rw [hb]; exact kcnt_le _ _, fun i hi => ?_, fun x hx => ?_, fun m hm => ?_⟩
  · rw [getD_map' hi]
    rcases hr _ (getD_mem (l := roots) (i := i) (z := 0) hi) with h | h
    · rw [h, none]
      refine allB_ext fun i _ _ => ?_
      rw [get_none rfl, get_none rfl]
    · obtain ⟨h3, h4⟩ := root _ (getD_mem hi) h
      have hk := hkr _ (getD_mem hi) h
      rw [h3]
      generalize roots.getD i 0 = r at h h4 hk
      obtain ⟨r0, rl, rf⟩ := root_lt h
      refine allB_ext fun i h5 h6 => ?_
      rw [get_root right h4 h5 h6, get_root ha h h5 h6]
      unfold numB
      rw [Int.toNat_natCast, h2 _ rl hk]
      unfold goK
      simp only [rf, Bool.false_eq_true, if_false]
      have l4 := (knot_of ha rl).1
      have hm := getD_mem (l := (a.getD r.toNat z88).f1) (i := (i / 4).toNat) (z := 0) (by omega)
      rw [getD_map' (by omega)]
      rcases kid_mem ha rl rf hm with h7 | ⟨⟨h7, h8⟩, h9⟩
      · rw [h7, show goB K (-1) = -1 from rfl, if_pos (by decide), if_pos (by decide)]
      · have hkn := (hkk _ rl hk rf _ hm h7).2
        unfold goB
        rw [if_pos h7, if_neg (by omega), if_neg (by omega), Int.toNat_natCast, h2 _ (by omega) hkn]
        unfold goK
        simp only [h9, if_true]
  · obtain ⟨r, h3, rfl⟩ := List.mem_map.1 hx
    rcases hr r h3 with h | h
    · left; rw [h]; exact none
    · obtain ⟨h4, h5⟩ := root r h3 h
      rw [h4]; exact .inr h5
  · obtain ⟨j, hj, hk, rfl⟩ := kcnt_find K a.length m (by omega)
    obtain ⟨r, h3, h4, h5⟩ := (hki j).1 hk
    obtain ⟨h6, h7⟩ := root r h3 h4
    obtain ⟨r0, rl, rf⟩ := root_lt h4
    have hkr2 := hkr r h3 h4
    refine keep_iff.2 ⟨(kcnt K r.toNat : Int), List.mem_map.2 ⟨r, h3, h6⟩, h7, ?_⟩
    rcases h5 with h5 | h5
    · left; rw [← h5, Int.toNat_natCast]
    · right
      rw [Int.toNat_natCast, h2 _ rl hkr2]
      unfold goK
      simp only [rf, Bool.false_eq_true, if_false]
      refine List.mem_map.2 ⟨(j : Int), h5, ?_⟩
      unfold goB
      rw [if_pos (by omega), Int.toNat_natCast]
/-- Swept again it is the same. -/
theorem swept_again {b : List S88} {now : List Int} (hb : arenaB b = true) (hr : ∀ x ∈ now, x = -1 ∨ rootB b x = true) (hk : ∀ m, m < b.length → keepB b now m = true) : (sweepB b now).1.length = b.length ∧ (sweepB b now).2 = now := by
  have hok : sweepOk b now = true := by
    unfold sweepOk
    rw [hb, Bool.true_and, List.all_eq_true]
    intro x hx
    rw [Bool.or_eq_true, decide_eq_true_eq]
    exact hr x hx
  have hs := sw_spec b (keepB b now) (keep_kids hb) b.length 0 (List.replicate b.length 0) [] (by omega) (by simp) rfl (fun j hj => absurd hj (Nat.not_lt_zero _)) (fun j hj => absurd hj (Nat.not_lt_zero _))
  have e : sweepB b now = ((swAll b (keepB b now) b.length 0 (List.replicate b.length 0) []).2, now.map (movB (swAll b (keepB b now) b.length 0 (List.replicate b.length 0) []).1)) := if_pos hok
  rw [e]
  generalize swAll b (keepB b now) b.length 0 (List.replicate b.length 0) [] = W at hs
  generalize keepB b now = K at hs hk
  obtain ⟨P, c⟩ := W
  obtain ⟨hp, hc, h1, h2⟩ := hs
  simp only at hp hc h1 h2 ⊢
  have same : ∀ j, j ≤ b.length → kcnt K j = j := fun j hj => kcnt_all j fun m hm => hk m (by omega)
  refine ⟨by rw [hc, same _ (Nat.le_refl _)], ?_⟩
  rw [show now = now.map id from (List.map_id now).symm, List.map_map]
  refine List.map_congr_left fun x hx => ?_
  show movB P x = x
  unfold movB
  rcases hr x hx with h | h
  · rw [h]; rfl
  · obtain ⟨r0, rl, rf⟩ := root_lt h
    rw [if_pos r0, h1 _ rl (hk _ rl), same _ (by omega)]
    omega
end Go.Proofs.Yteideicglgpfiaa.Pu

/- The place of a volume in a store; the program's and the reference's search tell it. -/
namespace Go.Proofs.Yteideicglgpfiaa.Pu
set_option linter.unusedVariables false
set_option linter.unusedSimpArgs false
open Go.RowKit Go.Proofs.Yteideicglgpfiaa.PK Go.Proofs.YteideicglgpfiaaW.PrintWords

/-- The place of a volume, or -1. -/
def volB (v : List S53) (id : Int) : Int := findI (fun i => decide ((v.getD i z53).f0 = id)) 0 v.length
theorem volB_cases (v : List S53) (id : Int) : volB v id = -1 ∨ ∃ j : Nat, j < v.length ∧ volB v id = (j : Int) := by
  rcases findI_range (T := fun i => decide ((v.getD i z53).f0 = id)) v.length 0 with h | ⟨j, _, h2, h3, _⟩
  · exact .inl h
  · exact .inr ⟨j, by omega, h3⟩
theorem iVolAt_ev (v : List S53) (a : List S88) (n id : Int) (hv : v.length ≤ 1048576) : Ev (fun k => impl_volAt.f k v a n id) (volB v id) := by
  refine ev_find (L := fun k i => impl_volAt.l0 k id v (v.length : Int) i) (n := v.length) (T := fun i => decide ((v.getD i z53).f0 = id)) (fun i hi ht => ?_) (fun i hi ht r hr => ?_) (ev_some fun k => by simp only [impl_volAt.l0]; rw [if_neg (by omega)]) v.length 0 (by omega)
  · refine ev_some fun k => ?_
    simp only [impl_volAt.l0]
    rw [if_pos (by omega), if_pos (by omega), if_pos (by omega), rdIV_nat, if_pos (of_decide_eq_true ht)]
  · refine Ev.step (fun k => ?_) hr
    simp only [impl_volAt.l0]
    rw [if_pos (by omega), if_pos (by omega), if_pos (by omega), rdIV_nat, if_neg (of_decide_eq_false ht), wsucc (n := v.length) hi (by omega)]
theorem sVolAt_ev (v : List S53) (a : List S88) (n id : Int) (hv : v.length ≤ 1048576) : Ev (fun k => spec_l12At.f k v a n id) (volB v id) := by
  refine ev_find (L := fun k i => spec_l12At.l0 k id i v a n) (n := v.length) (T := fun i => decide ((v.getD i z53).f0 = id)) (fun i hi ht => ?_) (fun i hi ht r hr => ?_) (ev_some fun k => by simp only [spec_l12At.l0]; rw [if_neg (by omega)]) v.length 0 (by omega)
  · refine ev_some fun k => ?_
    simp only [spec_l12At.l0]
    rw [if_pos (by omega), if_pos (by omega), rdIV_nat, if_pos (of_decide_eq_true ht)]
  · refine Ev.step (fun k => ?_) hr
    simp only [spec_l12At.l0]
    rw [if_pos (by omega), if_pos (by omega), rdIV_nat, if_neg (of_decide_eq_false ht), wsucc (n := v.length) hi (by omega)]
end Go.Proofs.Yteideicglgpfiaa.Pu

/- A sector's chunk, as one function; the program's and the reference's ChunkOf answer it. -/
namespace Go.Proofs.Yteideicglgpfiaa.Pu
set_option linter.unusedVariables false
set_option linter.unusedSimpArgs false
open Go.RowKit Go.Proofs.Yteideicglgpfiaa.PK Go.Proofs.YteideicglgpfiaaW.PrintWords

def chunkB (v : List S53) (a : List S88) (id s : Int) : Int := if volB v id < 0 then 0 else getB a (v.getD (volB v id).toNat z53).f1 s
theorem iChunkOf_ev (v : List S53) (a : List S88) (n id s : Int) (hv : v.length ≤ 1048576) (ha : a.length ≤ 9223372036854775807) : Ev (fun k => impl_ChunkOf.f k v a n id s) (chunkB v a id s) := by
  unfold impl_ChunkOf.f chunkB
  refine ev_bind (iVolAt_ev v a n id hv) ?_
  rcases volB_cases v id with h | ⟨j, hj, h⟩
  · simp only [h, if_pos (show (-1 : Int) < 0 by omega)]; exact Ev.now _
  · simp only [h, if_neg (show ¬ ((j : Int) < 0) by omega), if_pos (show 0 ≤ (j : Int) by omega), if_pos (show (j : Int) < (v.length : Int) by omega), rdIV_nat, Int.toNat_natCast]
    exact ev_bind (iGetAt_ev a _ s ha) (Ev.now _)
end Go.Proofs.Yteideicglgpfiaa.Pu

/- When a record is right, as one test; the program's and the reference's RecOk answer it. -/
namespace Go.Proofs.Yteideicglgpfiaa.Pu
set_option linter.unusedVariables false
set_option linter.unusedSimpArgs false
open Go.RowKit Go.Proofs.Yteideicglgpfiaa.PK Go.Proofs.YteideicglgpfiaaW.PrintWords

theorem in_eq' (a l h : Int) : impl_in.f a l h = some (decide (l ≤ a ∧ a ≤ h)) := by
  unfold impl_in.f
  by_cases h1 : a ≥ l
  · rw [if_pos h1]; congr 1; simp; omega
  · rw [if_neg h1]; congr 1; simp; omega
theorem l01In_eq' (a l h : Int) : spec_l01In.f a l h = some (decide (l ≤ a ∧ a ≤ h)) := by
  unfold spec_l01In.f
  by_cases h1 : a ≥ l
  · rw [if_pos h1]; congr 1; simp; omega
  · rw [if_neg h1]; congr 1; simp; omega
theorem some_dec {b : Bool} {P : Prop} [Decidable P] (h : b = true ↔ P) : some b = some (decide P) := by
  congr 1
  rw [Bool.eq_iff_iff, decide_eq_true_eq]
  exact h

/-- A record is right. -/
def recOk (t v a c : Int) : Bool := decide (0 ≤ a ∧ a ≤ 1000000000 ∧ ((t = 1 ∧ v = 0 ∧ c = 0) ∨ (1 ≤ v ∧ v ≤ 9 ∧ ((t = 2 ∧ c = 0 ∧ a ≤ 9) ∨ (t = 3 ∧ c = 0 ∧ a = 0) ∨ (t = 4 ∧ a ≤ 15 ∧ 1 ≤ c ∧ c ≤ 1000000000) ∨ (t = 5 ∧ c = 0 ∧ a ≤ 15)))))
theorem spec_RecOk_eq (k : Nat) (t v a c : Int) : spec_RecOk.f (k + 1) t v a c = some (recOk t v a c) := by
  unfold spec_RecOk.f spec_RecOk.j0 recOk
  simp only [l01In_eq', Option.bind_some]
  repeat' split
  all_goals (refine some_dec ?_)
  all_goals (simp only [beq_iff_eq, bne_iff_ne, ne_eq, decide_eq_true_eq, Bool.false_eq_true, false_iff, not_true_eq_false, not_false_eq_true] at *)
  all_goals omega
theorem sRecOk_ev (t v a c : Int) : Ev (fun k => spec_RecOk.f k t v a c) (recOk t v a c) := ev_some fun k => spec_RecOk_eq k t v a c
theorem recOk_range {t v a c : Int} (h : recOk t v a c = true) : 1 ≤ t ∧ t ≤ 5 ∧ 0 ≤ v ∧ v ≤ 9 ∧ 0 ≤ a ∧ a ≤ 1000000000 ∧ 0 ≤ c ∧ c ≤ 1000000000 := by
  unfold recOk at h
  rw [decide_eq_true_eq] at h
  omega
end Go.Proofs.Yteideicglgpfiaa.Pu

/- A right store: what it is, what a sweep, a volume more or less, and a put make of it. -/
namespace Go.Proofs.Yteideicglgpfiaa.Pu
set_option linter.unusedVariables false
set_option linter.unusedSimpArgs false
open Go.RowKit Go.Proofs.Yteideicglgpfiaa.PK Go.Proofs.YteideicglgpfiaaW.PrintWords

theorem gdE {α : Type} {l : List α} {i : Nat} (z : α) (h : i < l.length) : l.getD i z = l[i] := by
  rw [List.getD_eq_getElem?_getD, List.getElem?_eq_getElem h]; rfl
/-- What StoreOk asks but that no knot is idle. -/
def Half (v : List S53) (a : List S88) (n : Int) : Prop :=
  v.length ≤ 3 ∧ arenaB a = true ∧ (1 ≤ n ∧ n ≤ 1000000000) ∧ v.Pairwise (fun x y => x.f0 < y.f0) ∧ ∀ x ∈ v, (1 ≤ x.f0 ∧ x.f0 ≤ 9) ∧ (x.f1 = -1 ∨ rootB a x.f1 = true) ∧ ∀ s, getB a x.f1 s < n
def Full (v : List S53) (a : List S88) : Prop := ∀ j, j < a.length → keepB a (rootsB v) j = true
theorem asc_iff {v : List S53} : (∀ i, i < v.length → i = 0 ∨ (v.getD (i - 1) z53).f0 < (v.getD i z53).f0) ↔ v.Pairwise (fun x y => x.f0 < y.f0) := by
  rw [List.pairwise_iff_getElem]
  constructor
  · intro h i j hi hj hij
    have main : ∀ d, i + d + 1 < v.length → (v.getD i z53).f0 < (v.getD (i + d + 1) z53).f0 := by
      intro d
      induction d with
      | zero =>
        intro hd
        rcases h (i + 1) hd with h0 | h0
        · omega
        · exact h0
      | succ d ih =>
        intro hd
        have h1 := ih (by omega)
        rcases h (i + d + 1 + 1) hd with h0 | h0
        · omega
        · have h2 : (v.getD (i + d + 1) z53).f0 < (v.getD (i + d + 1 + 1) z53).f0 := h0
          show (v.getD i z53).f0 < (v.getD (i + d + 1 + 1) z53).f0
          omega
    have h1 := main (j - i - 1) (by omega)
    rw [show i + (j - i - 1) + 1 = j by omega, gdE _ hi, gdE _ hj] at h1
    exact h1
  · intro h i hi
    by_cases h0 : i = 0
    · exact .inl h0
    · refine .inr ?_
      have h1 := h (i - 1) i (by omega) hi (by omega)
      rw [gdE _ hi, gdE _ (show i - 1 < v.length by omega)]
      exact h1
theorem gB_get {a : List S88} {r : Int} (ha : arenaB a = true) (hr : r = -1 ∨ rootB a r = true) {s : Nat} (hs : s < 16) : gB a r s = getB a r (s : Int) := by
  unfold gB
  rcases hr with rfl | hr
  · rw [if_pos (by omega), get_none rfl]
  · have := root_lt hr
    rw [if_neg (by omega), get_root ha hr (by omega) (by omega)]
theorem getOk_iff {a : List S88} {r n : Int} (ha : arenaB a = true) (hr : r = -1 ∨ rootB a r = true) (hn : 1 ≤ n) : getOk a n r = true ↔ ∀ s, getB a r s < n := by
  unfold getOk
  rw [List.all_eq_true]
  constructor
  · intro h s
    by_cases hs : 0 ≤ s ∧ s ≤ 15
    · have h1 := h s.toNat (by rw [List.mem_range'_1]; omega)
      rw [gB_get ha hr (by omega), show ((s.toNat : Nat) : Int) = s by omega] at h1
      simpa using h1
    · rw [get_out hs]; omega
  · intro h s hs
    rw [List.mem_range'_1] at hs
    rw [gB_get ha hr (by omega)]
    have := h (s : Int)
    rw [decide_eq_false (by omega)]; rfl
theorem vol_iff {v : List S53} {a : List S88} {i : Nat} : volOk v a i = true ↔ (1 ≤ (v.getD i z53).f0 ∧ (v.getD i z53).f0 ≤ 9) ∧ (i = 0 ∨ (v.getD (i - 1) z53).f0 < (v.getD i z53).f0) ∧ ((v.getD i z53).f1 = -1 ∨ rootB a (v.getD i z53).f1 = true) := by
  unfold volOk
  simp only [Bool.and_eq_true, Bool.or_eq_true, decide_eq_true_eq, Bool.not_eq_true', decide_eq_false_iff_not]
  constructor
  · rintro ⟨h1, h2, h3⟩
    exact ⟨h1, h2.imp id (fun h => by omega), h3⟩
  · rintro ⟨h1, h2, h3⟩
    exact ⟨h1, h2.imp id (fun h => by omega), h3⟩
theorem rootsOk {v : List S53} {a : List S88} (h : ∀ x ∈ v, x.f1 = -1 ∨ rootB a x.f1 = true) : ∀ r ∈ rootsB v, r = -1 ∨ rootB a r = true := by
  intro r hr
  unfold rootsB at hr
  obtain ⟨x, hx, rfl⟩ := List.mem_map.1 hr
  exact h x hx
theorem sweepOk_of {a : List S88} {roots : List Int} (ha : arenaB a = true) (hr : ∀ r ∈ roots, r = -1 ∨ rootB a r = true) : sweepOk a roots = true := by
  unfold sweepOk
  rw [ha, Bool.true_and, List.all_eq_true]
  intro r h
  rw [Bool.or_eq_true, decide_eq_true_eq]
  exact hr r h
theorem right_iff {v : List S53} {a : List S88} {n : Int} : storeB v a n = true ↔ Half v a n ∧ Full v a := by
  have mr : ∀ {P : Nat → Bool} {m : Nat}, (List.range' 0 m).all P = true ↔ ∀ i, i < m → P i = true := fun {P m} => by
    rw [List.all_eq_true]
    exact ⟨fun h i hi => h i (by rw [List.mem_range'_1]; omega), fun h i hi => h i (by rw [List.mem_range'_1] at hi; omega)⟩
  unfold storeB
  constructor
  · intro h
    by_cases h1 : (v.length : Int) > 3
    · rw [if_pos h1] at h; cases h
    rw [if_neg h1] at h
    by_cases h2 : arenaB a = true
    · rw [if_pos h2] at h
      by_cases h3 : 1 ≤ n ∧ n ≤ 1000000000
      · rw [if_pos h3, ← ok_eq v a n h2 h3.1] at h
        unfold specOk at h
        rw [Bool.and_eq_true, mr, decide_eq_true_eq] at h
        obtain ⟨hv, hl⟩ := h
        have hV : ∀ i, i < v.length → volOk v a i = true ∧ getOk a n (v.getD i z53).f1 = true := fun i hi => by
          have := hv i hi
          rwa [Bool.and_eq_true] at this
        have hx : ∀ x ∈ v, (1 ≤ x.f0 ∧ x.f0 ≤ 9) ∧ (x.f1 = -1 ∨ rootB a x.f1 = true) ∧ ∀ s, getB a x.f1 s < n := by
          intro x hx
          obtain ⟨i, hi, rfl⟩ := List.getElem_of_mem hx
          obtain ⟨h4, h5⟩ := hV i hi
          obtain ⟨h6, _, h7⟩ := vol_iff.1 h4
          rw [gdE _ hi] at h5 h6 h7
          exact ⟨h6, h7, (getOk_iff h2 h7 h3.1).1 h5⟩
        refine ⟨⟨by omega, h2, h3, asc_iff.1 fun i hi => (vol_iff.1 (hV i hi).1).2.1, hx⟩, ?_⟩
        exact (sweep_len (sweepOk_of h2 (rootsOk fun x h => (hx x h).2.1))).1 hl
      · rw [if_neg h3] at h; cases h
    · rw [if_neg h2] at h; cases h
  · rintro ⟨⟨h1, h2, h3, h4, h5⟩, hf⟩
    rw [if_neg (by omega), if_pos h2, if_pos h3, ← ok_eq v a n h2 h3.1]
    unfold specOk
    rw [Bool.and_eq_true, mr, decide_eq_true_eq]
    refine ⟨fun i hi => ?_, (sweep_len (sweepOk_of h2 (rootsOk fun x h => (h5 x h).2.1))).2 hf⟩
    have hm : v.getD i z53 ∈ v := by rw [gdE _ hi]; exact List.getElem_mem hi
    obtain ⟨h6, h7, h8⟩ := h5 _ hm
    rw [Bool.and_eq_true]
    exact ⟨vol_iff.2 ⟨h6, asc_iff.2 h4 i hi, h7⟩, (getOk_iff h2 h7 h3.1).2 h8⟩
/-- The volumes with other roots. -/
def zipR (v : List S53) (rs : List Int) : List S53 := (List.range' 0 v.length).map fun i => ⟨(v.getD i z53).f0, rs.getD i 0⟩
theorem zipR_len (v : List S53) (rs : List Int) : (zipR v rs).length = v.length := by simp [zipR]
theorem zipR_get {v : List S53} {rs : List Int} {i : Nat} (h : i < v.length) : (zipR v rs).getD i z53 = ⟨(v.getD i z53).f0, rs.getD i 0⟩ := by
  rw [gdE _ (by rw [zipR_len]; exact h)]
  unfold zipR
  simp
theorem zipR_roots {v : List S53} {rs : List Int} (h : rs.length = v.length) : rootsB (zipR v rs) = rs := by
  apply List.ext_getElem
  · unfold rootsB; rw [List.length_map, zipR_len, h]
  · intro i h1 h2
    have h3 : i < v.length := by omega
    have e := rootsB_get (zipR v rs) (i := i) (by rw [zipR_len]; exact h3)
    rw [zipR_get h3, gdE _ h1] at e
    rw [e]
    exact gdE _ h2
def sweptV (v : List S53) (a : List S88) : List S53 := zipR v (sweepB a (rootsB v)).2
def sweptA (v : List S53) (a : List S88) : List S88 := (sweepB a (rootsB v)).1
theorem all_get {a b : List S88} {r q : Int} (h : allB a r = allB b q) (s : Int) : getB a r s = getB b q s := by
  by_cases hs : 0 ≤ s ∧ s ≤ 15
  · have h1 := allB_get a r (i := s.toNat) (by omega)
    have h2 := allB_get b q (i := s.toNat) (by omega)
    rw [h, h2, show ((s.toNat : Nat) : Int) = s by omega] at h1
    exact h1.symm
  · rw [get_out hs, get_out hs]
theorem rootsB_len (v : List S53) : (rootsB v).length = v.length := List.length_map _
theorem right_swept {v : List S53} {a : List S88} {n : Int} (h : Half v a n) : Half (sweptV v a) (sweptA v a) n ∧ Full (sweptV v a) (sweptA v a) ∧
    (∀ i, i < v.length → ((sweptV v a).getD i z53).f0 = (v.getD i z53).f0 ∧ allB (sweptA v a) ((sweptV v a).getD i z53).f1 = allB a (v.getD i z53).f1) ∧ (sweptA v a).length ≤ a.length := by
  obtain ⟨h1, h2, h3, h4, h5⟩ := h
  obtain ⟨s1, s2, s3, s4, s5, s6⟩ := swept h2 (rootsOk fun x h => (h5 x h).2.1)
  rw [rootsB_len] at s2 s4
  have hz := zipR_roots (v := v) s2
  have hg : ∀ i, i < v.length → ((sweptV v a).getD i z53).f0 = (v.getD i z53).f0 ∧ allB (sweptA v a) ((sweptV v a).getD i z53).f1 = allB a (v.getD i z53).f1 := by
    intro i hi
    have e := zipR_get (rs := (sweepB a (rootsB v)).2) hi
    refine ⟨by unfold sweptV; rw [e], ?_⟩
    unfold sweptV
    rw [e]
    have := s4 i hi
    rw [rootsB_get v hi] at this
    exact this
  refine ⟨⟨by unfold sweptV; rw [zipR_len]; exact h1, s1, h3, asc_iff.1 fun i hi => ?_, fun x hx => ?_⟩, ?_, hg, s3⟩
  · have hi : i < v.length := by unfold sweptV at hi; rwa [zipR_len] at hi
    rw [(hg i hi).1, (hg (i - 1) (by omega)).1]
    exact asc_iff.2 h4 i hi
  · obtain ⟨i, hi, rfl⟩ := List.getElem_of_mem hx
    have hi2 : i < v.length := by unfold sweptV at hi; rwa [zipR_len] at hi
    obtain ⟨g1, g2⟩ := hg i hi2
    rw [gdE _ hi, gdE _ hi2] at g1 g2
    obtain ⟨h6, h7, h8⟩ := h5 _ (List.getElem_mem hi2)
    refine ⟨by rw [g1]; exact h6, s5 _ ?_, fun s => by rw [all_get g2 s]; exact h8 s⟩
    rw [← hz]
    exact List.mem_map.2 ⟨_, hx, rfl⟩
  · unfold Full sweptV
    rw [hz]
    exact s6
theorem keep_mono {a : List S88} {p q : List Int} (h : ∀ x ∈ p, x ∈ q) {j : Nat} (hk : keepB a p j = true) : keepB a q j = true := by
  obtain ⟨r, h1, h2⟩ := keep_iff.1 hk
  exact keep_iff.2 ⟨r, h r h1, h2⟩
theorem volB_none {v : List S53} {id : Int} (h : volB v id = -1) : ∀ x ∈ v, ¬ x.f0 = id := by
  have main : ∀ (d i : Nat), findI (fun i => decide ((v.getD i z53).f0 = id)) i d = -1 → ∀ j, i ≤ j → j < i + d → ¬ (v.getD j z53).f0 = id := by
    intro d
    induction d with
    | zero => intro i _ j h1 h2; omega
    | succ d ih =>
      intro i hf j h1 h2
      unfold findI at hf
      split at hf
      · omega
      · rename_i hn
        by_cases e : j = i
        · subst e; exact fun g => hn (decide_eq_true g)
        · exact ih (i + 1) hf j (by omega) (by omega)
  intro x hx
  obtain ⟨i, hi, rfl⟩ := List.getElem_of_mem hx
  have := main v.length 0 h i (by omega) (by omega)
  rwa [gdE _ hi] at this
theorem volB_some {v : List S53} {id : Int} (h : ¬ volB v id = -1) : ∃ j, j < v.length ∧ volB v id = (j : Int) ∧ (v.getD j z53).f0 = id := by
  rcases findI_range (T := fun i => decide ((v.getD i z53).f0 = id)) v.length 0 with h1 | ⟨j, _, h2, h3, h4⟩
  · exact absurd h1 h
  · exact ⟨j, by omega, h3, of_decide_eq_true h4⟩
/-- In ascending volumes each is found at its own place. -/
theorem volB_at {v : List S53} (ha : v.Pairwise fun x y => x.f0 < y.f0) {i : Nat} (hi : i < v.length) : volB v (v.getD i z53).f0 = (i : Int) := by
  have hn : ¬ volB v (v.getD i z53).f0 = -1 := fun e => volB_none e v[i] (List.getElem_mem hi) (by rw [gdE _ hi])
  obtain ⟨j, h1, h2, h3⟩ := volB_some hn
  rw [h2]
  rw [List.pairwise_iff_getElem] at ha
  rw [gdE _ hi, gdE _ h1] at h3
  rcases Nat.lt_trichotomy j i with h | h | h
  · have := ha j i h1 hi h; omega
  · omega
  · have := ha i j hi h1 h; omega
def insV (v : List S53) (x : S53) : List S53 := v.filter (fun y => decide (y.f0 < x.f0)) ++ [x] ++ v.filter fun y => decide (y.f0 > x.f0)
theorem two_filters {v : List S53} {x : S53} : (v.filter (fun y => decide (y.f0 < x.f0))).length + (v.filter fun y => decide (y.f0 > x.f0)).length ≤ v.length := by
  induction v with
  | nil => exact Nat.le_refl _
  | cons y v ih =>
    rw [List.filter_cons, List.filter_cons]
    by_cases h : y.f0 < x.f0
    · rw [if_pos (decide_eq_true h), if_neg (by rw [decide_eq_false (by omega)]; decide), List.length_cons, List.length_cons]; omega
    · rw [if_neg (by rw [decide_eq_false h]; decide)]
      split
      · rw [List.length_cons, List.length_cons]; omega
      · rw [List.length_cons]; omega
theorem mem_ins {v : List S53} {x y : S53} : y ∈ insV v x ↔ y = x ∨ y ∈ v ∧ ¬ y.f0 = x.f0 := by
  unfold insV
  simp only [List.mem_append, List.mem_filter, List.mem_singleton, decide_eq_true_eq]
  constructor
  · rintro ((⟨h1, h2⟩ | h) | ⟨h1, h2⟩)
    · exact .inr ⟨h1, by omega⟩
    · exact .inl h
    · exact .inr ⟨h1, by omega⟩
  · rintro (h | ⟨h1, h2⟩)
    · exact .inl (.inr h)
    · by_cases h3 : y.f0 < x.f0
      · exact .inl (.inl ⟨h1, h3⟩)
      · exact .inr ⟨h1, by omega⟩
theorem half_ins {v : List S53} {a : List S88} {n : Int} {x : S53} (h : Half v a n) (hl : v.length < 3) (hi : 1 ≤ x.f0 ∧ x.f0 ≤ 9) (hr : x.f1 = -1 ∨ ∃ y ∈ v, y.f1 = x.f1) : Half (insV v x) a n := by
  obtain ⟨h1, h2, h3, h4, h5⟩ := h
  refine ⟨?_, h2, h3, ?_, fun y hy => ?_⟩
  · unfold insV
    have := two_filters (v := v) (x := x)
    rw [List.length_append, List.length_append, List.length_singleton]; omega
  · unfold insV
    rw [List.pairwise_append, List.pairwise_append]
    refine ⟨⟨h4.filter _, List.pairwise_singleton _ _, fun y hy z hz => ?_⟩, h4.filter _, fun y hy z hz => ?_⟩
    · rw [List.mem_singleton.1 hz]
      exact of_decide_eq_true (List.mem_filter.1 hy).2
    · have hz2 := of_decide_eq_true (List.mem_filter.1 hz).2
      rcases List.mem_append.1 hy with hy | hy
      · have := of_decide_eq_true (List.mem_filter.1 hy).2; omega
      · rw [List.mem_singleton.1 hy]; omega
  · rcases mem_ins.1 hy with rfl | ⟨hy, _⟩
    · refine ⟨hi, ?_⟩
      rcases hr with hr | ⟨w, hw, e⟩
      · exact ⟨.inl hr, fun s => by rw [get_none hr]; omega⟩
      · rw [← e]; exact (h5 w hw).2
    · exact h5 y hy
theorem full_ins {v : List S53} {a : List S88} {x : S53} (h : Full v a) (hn : volB v x.f0 = -1) : Full (insV v x) a := by
  intro j hj
  refine keep_mono (fun r hr => ?_) (h j hj)
  unfold rootsB at hr ⊢
  obtain ⟨y, hy, rfl⟩ := List.mem_map.1 hr
  exact List.mem_map.2 ⟨y, mem_ins.2 (.inr ⟨hy, volB_none hn y hy⟩), rfl⟩
theorem half_drop {v : List S53} {a : List S88} {n : Int} (h : Half v a n) (k : Nat) : Half (v.take k ++ v.drop (k + 1)) a n := by
  obtain ⟨h1, h2, h3, h4, h5⟩ := h
  have hs : (v.take k ++ v.drop (k + 1)).Sublist v := by
    have : (v.take k ++ v.drop (k + 1)).Sublist (v.take k ++ v.drop k) := List.Sublist.append (List.Sublist.refl _) (by
      rw [show v.drop (k + 1) = (v.drop k).drop 1 by rw [List.drop_drop]]
      exact List.drop_sublist _ _)
    rwa [List.take_append_drop] at this
  exact ⟨Nat.le_trans hs.length_le h1, h2, h3, h4.sublist hs, fun x hx => h5 x (hs.subset hx)⟩
theorem half_put {v : List S53} {a : List S88} {n s c : Int} {k : Nat} (h : Half v a n) (hk : k < v.length) (hs : 0 ≤ s ∧ s ≤ 15) (hc : 0 ≤ c) (hm : c < 1000000000) :
    canPut a (v.getD k z53).f1 s c ∧ Half (v.set k ⟨(v.getD k z53).f0, (putB a (v.getD k z53).f1 s c).2⟩) (putB a (v.getD k z53).f1 s c).1 (if c ≥ n then c + 1 else n) := by
  obtain ⟨h1, h2, h3, h4, h5⟩ := h
  have hmem : v.getD k z53 ∈ v := by rw [gdE _ hk]; exact List.getElem_mem hk
  obtain ⟨g1, g2, g3⟩ := h5 _ hmem
  have hcan : canPut a (v.getD k z53).f1 s c := ⟨h2, g2, hs, hc⟩
  have hnn : n ≤ (if c ≥ n then c + 1 else n) ∧ c < (if c ≥ n then c + 1 else n) ∧ (if c ≥ n then c + 1 else n) ≤ 1000000000 := by split <;> omega
  refine ⟨hcan, by rw [List.length_set]; exact h1, put_arena hcan, by omega, asc_iff.1 fun i hi => ?_, fun x hx => ?_⟩
  · rw [List.length_set] at hi
    have e := asc_iff.2 h4 i hi
    have f0 : ∀ j, ((v.set k ⟨(v.getD k z53).f0, (putB a (v.getD k z53).f1 s c).2⟩).getD j z53).f0 = (v.getD j z53).f0 := by
      intro j
      rw [getD_set' _ _ _ hk]
      by_cases ej : k = j
      · rw [if_pos ej, ej]
      · rw [if_neg ej]
    rw [f0, f0]
    exact e
  · rcases List.mem_or_eq_of_mem_set hx with hx | rfl
    · obtain ⟨e1, e2, e3⟩ := h5 x hx
      refine ⟨e1, e2.imp id (put_keeps hcan), fun t => ?_⟩
      rw [put_old hcan e2]
      have := e3 t
      omega
    · refine ⟨g1, .inr (put_new hcan), fun t => ?_⟩
      show getB (putB a (v.getD k z53).f1 s c).1 (putB a (v.getD k z53).f1 s c).2 t < _
      by_cases ht : 0 ≤ t ∧ t ≤ 15
      · rw [put_get hcan ht.1 ht.2]
        have := g3 t
        split <;> omega
      · rw [get_out ht]; omega
/-- What entering a record makes of a store. -/
def rootOf (v : List S53) (id : Int) : Int := if id > 0 then (v.getD (volB v id).toNat z53).f1 else -1
def enterB (v : List S53) (a : List S88) (n t w s c : Int) : Option (List S53 × List S88 × Int) :=
  if storeB v a n = true ∧ recOk t w s c = true then
    if t = 1 then some ([], [], if s = 0 then 1 else s)
    else if t = 2 then
      if (s > 0 ∧ volB v s = -1) ∨ ¬ volB v w = -1 ∨ v.length = 3 then none
      else some (insV v ⟨w, rootOf v s⟩, a, n)
    else if volB v w = -1 ∨ c = 1000000000 then none
    else if t = 3 then some (sweptV (v.take (volB v w).toNat ++ v.drop ((volB v w).toNat + 1)) a, sweptA (v.take (volB v w).toNat ++ v.drop ((volB v w).toNat + 1)) a, n)
    else let k := (volB v w).toNat
      let p := putB a (v.getD k z53).f1 s c
      let u := v.set k ⟨(v.getD k z53).f0, p.2⟩
      some (sweptV u p.1, sweptA u p.1, if c ≥ n then c + 1 else n)
  else none
theorem enter_right {v : List S53} {a : List S88} {n t w s c : Int} {v' : List S53} {a' : List S88} {n' : Int} (h : enterB v a n t w s c = some (v', a', n')) : storeB v' a' n' = true ∧ a'.length ≤ a.length + 2 := by
  unfold enterB at h
  split at h
  rotate_left
  · cases h
  rename_i h0
  obtain ⟨hh, hf⟩ := right_iff.1 h0.1
  have hr := recOk_range h0.2
  have hro := h0.2
  unfold recOk at hro
  rw [decide_eq_true_eq] at hro
  split at h
  · injection h with h
    injection h with h1 h
    injection h with h2 h3
    subst h1 h2 h3
    refine ⟨right_iff.2 ⟨⟨Nat.zero_le _, rfl, by split <;> omega, List.Pairwise.nil, fun x hx => by cases hx⟩, fun j hj => absurd hj (Nat.not_lt_zero _)⟩, Nat.zero_le _⟩
  rename_i t1
  split at h
  · rename_i t2
    split at h
    · cases h
    rename_i hg
    injection h with h
    injection h with h1 h
    injection h with h2 h3
    subst h1 h2 h3
    have e1 : volB v w = -1 := by
      by_cases e : volB v w = -1
      · exact e
      · exact absurd (.inr (.inl e)) hg
    have e2 : ¬ v.length = 3 := fun e => hg (.inr (.inr e))
    refine ⟨right_iff.2 ⟨half_ins hh (by have := hh.1; omega) (by show 1 ≤ w ∧ w ≤ 9; omega) ?_, full_ins hf e1⟩, by omega⟩
    show rootOf v s = -1 ∨ ∃ y ∈ v, y.f1 = rootOf v s
    unfold rootOf
    by_cases hs : s > 0
    · rw [if_pos hs]
      have e3 : ¬ volB v s = -1 := fun e => hg (.inl ⟨hs, e⟩)
      obtain ⟨j, j1, j2, j3⟩ := volB_some e3
      refine .inr ⟨v.getD j z53, by rw [gdE _ j1]; exact List.getElem_mem j1, ?_⟩
      rw [j2]; rfl
    · rw [if_neg hs]; exact .inl rfl
  rename_i t2
  split at h
  · cases h
  rename_i hg
  have e3 : ¬ volB v w = -1 := fun e => hg (.inl e)
  obtain ⟨j, j1, j2, j3⟩ := volB_some e3
  have e4 : (volB v w).toNat = j := by omega
  rw [e4] at h
  split at h
  · injection h with h
    injection h with h1 h
    injection h with h2 h3
    subst h1 h2 h3
    obtain ⟨g1, g2, g3, g4⟩ := right_swept (half_drop hh j)
    exact ⟨right_iff.2 ⟨g1, g2⟩, by omega⟩
  · rename_i t3
    simp only at h
    injection h with h
    injection h with h1 h
    injection h with h2 h3
    subst h1 h2 h3
    obtain ⟨hcan, hp⟩ := half_put (s := s) (c := c) hh j1 (by omega) (by omega) (by omega)
    obtain ⟨g1, g2, g3, g4⟩ := right_swept hp
    refine ⟨right_iff.2 ⟨g1, g2⟩, ?_⟩
    rw [put_len hcan] at g4
    exact g4
end Go.Proofs.Yteideicglgpfiaa.Pu

/- A drawn forest: a right arena, and its roots. -/
namespace Go.Proofs.Yteideicglgpfiaa.Pu
set_option linter.unusedVariables false
set_option linter.unusedSimpArgs false
open Go.RowKit Go.Proofs.Yteideicglgpfiaa.PK Go.Proofs.YteideicglgpfiaaW.PrintWords

def Woods (a : List S88) (roots : List Int) : Prop := arenaB a = true ∧ ∀ x ∈ roots, x = -1 ∨ rootB a x = true
theorem woods_len {a : List S88} (ha : arenaB a = true) : ∀ x ∈ a, x.f1.length = 4 := by
  intro x hx
  obtain ⟨i, hi, rfl⟩ := List.getElem_of_mem hx
  have h := (knot_of ha hi).1
  rwa [List.getD_eq_getElem?_getD, List.getElem?_eq_getElem hi] at h
theorem woods_le {a : List S88} (ha : arenaB a = true) : ∀ x ∈ a, x.f1.length ≤ 1048576 := fun x hx => by rw [woods_len ha x hx]; omega
end Go.Proofs.Yteideicglgpfiaa.Pu

/- The reference's stores, of the own functions: which are right, what a record makes of them. -/
namespace Go.Proofs.Yteideicglgpfiaa.M2.Mp
set_option linter.unusedVariables false
set_option linter.unusedSimpArgs false
open Go.RowKit Go.Proofs.Yteideicglgpfiaa.PK Go.Proofs.YteideicglgpfiaaW.PrintWords Go.Proofs.Yteideicglgpfiaa.Pu

abbrev Sz (a : List S88) : Prop := ∀ x ∈ a, x.f1.length ≤ 1048576
theorem sRootsX (v : List S53) (a : List S88) (n : Int) (hv : v.length ≤ 1048576) : EvX (fun k => spec_l12Roots.f k v a n) (fun r => r = rootsB v) :=
  ⟨_, ev_rel (sRoots_ev v a n hv) (fun k r hh m hm => spec_l12Roots.rel k v a n r hh m hm), rfl⟩
theorem sSweepX (a : List S88) (rs : List Int) (hn : a.length ≤ 1048576) (hx : Sz a) (hr : rs.length ≤ 1048576) : EvX (fun k => spec_SweepArena.f k a rs) (fun r => r = sweepB a rs) :=
  ⟨_, ev_rel (sSweep_ev a rs hn hx hr) (fun k r hh m hm => spec_SweepArena.rel k a rs r hh m hm), rfl⟩
theorem sRootX (a : List S88) (r : Int) (hn : a.length ≤ 1048576) : EvX (fun k => spec_l11Root.f k a r) (fun t => t = (decide (r = -1) || rootB a r)) :=
  ⟨_, ev_all_k (fun m => spec_l11Root.rel 0 a r _ (sRoot_eq a r (by omega)) m (Nat.zero_le _)), rfl⟩
theorem sGetX (a : List S88) (r : Int) (s : Nat) (ha : arenaB a = true) (hr : (decide (r = -1) || rootB a r) = true) (hs : s < 16) : EvX (fun k => spec_l11Get.f k a r (s : Int)) (fun t => t = gB a r s) :=
  ⟨_, ev_all_k (fun m => spec_l11Get.rel 0 a r (s : Int) _ (gB_eq a r s ha hr hs) m (Nat.zero_le _)), rfl⟩
theorem sArenaX (a : List S88) (hn : a.length ≤ 1048576) : EvX (fun k => spec_ArenaOk.f k a) (fun t => t = arenaB a) :=
  ⟨_, ev_rel (sArena_ev a (by omega)) (fun k r hh m hm => spec_ArenaOk.rel k a r hh m hm), rfl⟩
theorem sRecOkX (t w s c : Int) : EvX (fun k => spec_RecOk.f k t w s c) (fun r => r = recOk t w s c) :=
  ⟨_, ev_rel (sRecOk_ev t w s c) (fun k r hh m hm => spec_RecOk.rel k t w s c r hh m hm), rfl⟩
theorem sVolAtX (v : List S53) (a : List S88) (n id : Int) (hv : v.length ≤ 1048576) : EvX (fun k => spec_l12At.f k v a n id) (fun r => r = volB v id) :=
  ⟨_, ev_rel (sVolAt_ev v a n id hv) (fun k r hh m hm => spec_l12At.rel k v a n id r hh m hm), rfl⟩
theorem sPutX (a : List S88) (r s n : Int) (hn : a.length ≤ 1048576) (hx : Sz a) : EvX (fun k => spec_PutAt.f k a r s n) (fun t => t = putB a r s n) := by
  simp only [spec_PutAt.f]
  refine evx_bind (Q := fun t => t = a) ⟨_, ev_rel (c := id) (sCopyArena_ev a hn hx) (fun k r hh m hm => spec_l11Copy.rel k a r hh m hm), rfl⟩ fun t e => ?_
  subst e
  refine evx_bind (sArenaX t hn) fun t2 e2 => ?_
  subst e2
  refine evx_ite (fun h3 => ?_) (fun h3 => evx_some (by rw [putB_no (fun h => h3 h.1)]))
  refine evx_bind (sRootX t r hn) fun t3 e3 => ?_
  subst e3
  have hrr : (decide (r = -1) || rootB t r) = true ↔ (r = -1 ∨ rootB t r = true) := by rw [Bool.or_eq_true, decide_eq_true_eq]
  refine evx_ite (fun hr => ?_) (fun hr => evx_some (by rw [putB_no (fun h => hr (hrr.2 h.2.1))]))
  have hr := hrr.1 hr
  refine evx_bind (l01InX s 0 15) fun t4 e4 => ?_
  subst e4
  refine evx_ite (fun h1 => ?_) (fun h1 => evx_some (by rw [putB_no (fun h => h1 (decide_eq_true h.2.2.1))]))
  have h1 := of_decide_eq_true h1
  obtain ⟨d1, d2, d3, d4, d5, d6⟩ := div4 h1.1 h1.2
  refine evx_ite (fun h2 => evx_some (by rw [putB_no (fun h => by have := h.2.2.2; omega)])) (fun h2 => ?_)
  have hc : canPut t r s n := ⟨h3, hr, h1, by omega⟩
  simp only [List.nil_append, w64_eq, d1, d2]
  have fin : ∀ (x y : S88), wrap64 (((t ++ [x, y]).length : Int) - 1) = (t.length : Int) + 1 := fun x y => by
    have e : (t ++ [x, y]).length = t.length + 2 := by simp
    rw [e, Pu.w64 (by omega) (by omega)]; omega
  by_cases h0 : r = -1
  · have ht := top_none (a := t) h0
    have hq : ¬ 0 ≤ ([-1, -1, -1, -1] : List Int).getD (s / 4).toNat 0 := by rw [none4 _ (by omega)]; decide
    have hq2 : ¬ rd_T3 ([(-1), (-1), (-1), (-1)] : List Int) (s / 4) ≥ 0 := hq
    refine evx_neg (by omega) ?_
    repeat first | refine evx_pos (by omega) ?_ | refine evx_neg (by omega) ?_ | refine evx_pos (by simp; omega) ?_ | refine evx_pos (by simp) ?_
    refine evx_some ?_
    rw [putB_yes hc ht (leaf_new ht hq), fin] <;> rfl
  · have ht := top_some (a := t) h0
    obtain ⟨r0, rl, rf⟩ := root_lt (hr.resolve_left h0)
    have h4 : (rd_T88 t r).f1.length = 4 := (knot_of h3 rl).1
    have hk := kid_of h3 rl rf (j := (s / 4).toNat) (by omega)
    rcases hk with hk | ⟨k0, k1, _⟩
    · have hq : ¬ 0 ≤ (t.getD r.toNat z88).f1.getD (s / 4).toNat 0 := by omega
      have hq2 : ¬ rd_T3 (rd_T88 t r).f1 (s / 4) ≥ 0 := hq
      repeat first | refine evx_pos (by omega) ?_ | refine evx_neg (by omega) ?_ | refine evx_pos (by simp; omega) ?_ | refine evx_pos (by simp) ?_
      refine evx_some ?_
      rw [putB_yes hc ht (leaf_new ht hq), fin] <;> rfl
    · have k0' : 0 ≤ rd_T3 (rd_T88 t r).f1 (s / 4) := k0
      have k1' : rd_T3 (rd_T88 t r).f1 (s / 4) < (t.length : Int) := by
        have k1 : (t.getD r.toNat z88).f1.getD (s / 4).toNat 0 < _ := k1
        show (t.getD r.toNat z88).f1.getD (s / 4).toNat 0 < _
        omega
      have h5 : (rd_T88 t (rd_T3 (rd_T88 t r).f1 (s / 4))).f1.length = 4 := (knot_of h3 (i := ((t.getD r.toNat z88).f1.getD (s / 4).toNat 0).toNat) (by omega)).1
      repeat first | refine evx_pos (by omega) ?_ | refine evx_neg (by omega) ?_ | refine evx_pos (by simp; omega) ?_ | refine evx_pos (by simp) ?_
      refine evx_some ?_
      rw [putB_yes hc ht (leaf_old ht k0), fin] <;> rfl
theorem sCopyX (v : List S53) (a : List S88) (n : Int) (hv : v.length ≤ 1048576) (hn : a.length ≤ 1048576) (hx : Sz a) : EvX (fun k => spec_l12Copy.f k v a n) (fun r => r = (v, a, n)) := by
  simp only [spec_l12Copy.f]
  refine evx_pos (by show 0 + v.length ≤ _; omega) ?_
  refine evx_bind (Q := fun t => t = a) ⟨_, ev_rel (c := id) (sCopyArena_ev a hn hx) (fun k r hh m hm => spec_l11Copy.rel k a r hh m hm), rfl⟩ fun t ht => ?_
  subst ht
  exact evx_some (by rw [List.nil_append])
theorem sStoreX (v : List S53) (a : List S88) (n : Int) (hv : v.length ≤ 1048576) (hn : a.length ≤ 1048576) (hx : Sz a) (ha : arenaB a = true) : ∀ (d i : Nat), i + d = v.length →
    EvX (fun k => spec_StoreOk.c4 k (i : Int) a v n) (fun r => r = ((List.range' i d).all (fun i => volOk v a i && getOk a n (v.getD i z53).f1) && decide ((sweepB a (rootsB v)).1.length = a.length), v, a)) := by
  intro d
  induction d with
  | zero =>
    intro i hi
    refine evx_step (fun k => by rw [spec_StoreOk.c4]) (evx_neg (by omega) ?_)
    refine evx_bind (sRootsX v a n hv) fun t ht => ?_
    subst ht
    refine evx_bind (sSweepX a (rootsB v) hn hx (by rw [rootsB_len]; exact hv)) fun t ht => ?_
    subst ht
    refine evx_some ?_
    congr 1
    rw [List.range'_zero, List.all_nil, Bool.true_and]
    exact decide_eq_decide.2 ⟨fun h => by omega, fun h => by omega⟩
  | succ d ih =>
    intro i hi
    have hil : i < v.length := by omega
    have hV : rd_T53 v (i : Int) = v.getD i z53 := rfl
    have hR := ih (i + 1) (by omega)
    rw [List.range'_succ, List.all_cons, Bool.and_assoc]
    generalize ((List.range' (i + 1) d).all (fun i => volOk v a i && getOk a n (v.getD i z53).f1) && decide ((sweepB a (rootsB v)).1.length = a.length)) = R at hR
    have inner : (decide ((v.getD i z53).f1 = -1) || rootB a (v.getD i z53).f1) = true → ∀ (e s : Nat), s + e = 16 → ∀ y1 y2 y3 y4 y5 y6 y7 h, EvX (fun k => spec_StoreOk.c10 k (i : Int) (s : Int) y1 y2 y3 y4 y5 y6 y7 a v n h (v.getD i z53).f1)
        (fun r => r = ((List.range' s e).all (fun s => !decide (gB a (v.getD i z53).f1 s ≥ n)) && R, v, a)) := by
      intro hok e
      induction e with
      | zero =>
        intro s hs y1 y2 y3 y4 y5 y6 y7 h
        refine evx_step (fun k => by rw [spec_StoreOk.c10]) (evx_neg (by omega) ?_)
        rw [m64 (n := v.length) hil (by omega)]
        exact hR
      | succ e ihe =>
        intro s hs y1 y2 y3 y4 y5 y6 y7 h
        refine evx_step (fun k => by rw [spec_StoreOk.c10]) (evx_pos (by omega) ?_)
        refine evx_bind (sGetX a _ s ha hok (by omega)) fun t ht => ?_
        subst ht
        rw [List.range'_succ, List.all_cons]
        refine evx_ite (fun hge => evx_some ?_) (fun hge => ?_)
        · rw [decide_eq_true hge]; rfl
        · rw [decide_eq_false hge, m64 (n := 16) (by omega) (by omega)]
          exact ihe (s + 1) (by omega) _ _ _ _ _ _ _ _
    refine evx_step (fun k => by rw [spec_StoreOk.c4]) (evx_pos (by omega) (evx_pos (by omega) (evx_pos (by omega) ?_)))
    rw [hV]
    refine evx_bind (l01InX _ 1 9) fun t ht => ?_
    subst ht
    unfold volOk
    by_cases h1 : 1 ≤ (v.getD i z53).f0 ∧ (v.getD i z53).f0 ≤ 9
    · rw [decide_eq_true h1]
      refine evx_pos rfl (evx_ite (fun h2 => ?_) (fun h2 => ?_))
      · rw [m64i (x := (i : Int) - 1) (by omega) (by omega), show (i : Int) - 1 = ((i - 1 : Nat) : Int) by omega, show rd_T53 v ((i - 1 : Nat) : Int) = v.getD (i - 1) z53 from rfl, decide_eq_false (show ¬ i = 0 by omega)]
        refine evx_pos (by omega) (evx_pos (by omega) (evx_ite (fun h3 => evx_some ?_) (fun h3 => ?_)))
        · rw [decide_eq_true h3]; rfl
        · rw [decide_eq_false h3]
          refine evx_bind (sRootX a _ hn) fun t ht => ?_
          subst ht
          refine evx_ite (fun h4 => ?_) (fun h4 => evx_some ?_)
          · rw [h4]
            exact inner h4 16 0 (by omega) _ _ _ _ _ _ _ _
          · rw [Bool.eq_false_iff.2 h4]; rfl
      · rw [decide_eq_true (show i = 0 by omega)]
        refine evx_bind (sRootX a _ hn) fun t ht => ?_
        subst ht
        refine evx_ite (fun h4 => ?_) (fun h4 => evx_some ?_)
        · rw [h4]
          exact inner h4 16 0 (by omega) _ _ _ _ _ _ _ _
        · rw [Bool.eq_false_iff.2 h4]; rfl
    · rw [decide_eq_false h1]
      exact evx_neg (by decide) (evx_some rfl)
theorem sStoreOkX (v : List S53) (a : List S88) (n : Int) (hv : v.length ≤ 1048576) (hn : a.length ≤ 1048576) (hx : Sz a) : EvX (fun k => spec_StoreOk.f k n v a) (fun r => r = (storeB v a n, v, a)) := by
  simp only [spec_StoreOk.f]
  unfold storeB
  refine evx_ite (fun h1 => evx_some (by rw [if_pos h1])) (fun h1 => ?_)
  simp only [if_neg h1]
  refine evx_bind (sArenaX a hn) fun t ht => ?_
  subst ht
  refine evx_ite (fun h2 => ?_) (fun h2 => evx_some (by rw [if_neg h2]))
  simp only [if_pos h2]
  refine evx_bind (l01InX n 1 1000000000) fun t ht => ?_
  subst ht
  by_cases h3 : 1 ≤ n ∧ n ≤ 1000000000
  · rw [decide_eq_true h3]
    simp only [if_pos h3, if_true]
    rw [← ok_eq v a n h2 h3.1]
    exact sStoreX v a n hv hn hx h2 v.length 0 (by omega)
  · rw [decide_eq_false h3]
    simp only [if_neg h3, Bool.false_eq_true, if_false]
    exact evx_some rfl
theorem drop_one {α : Type} {l : List α} {i : Nat} (z : α) (h : i < l.length) : l.drop i = l.getD i z :: l.drop (i + 1) := by
  rw [List.drop_eq_getElem_cons h, gdE z h]
/-- A volume more. -/
theorem sIns2X (v : List S53) (w : Int) (root : Int) (a : List S88) (n t s c : Int) (u : List S53) (b : List S88) (m : Int) (hv : v.length ≤ 1048576) : ∀ (d i : Nat), i + d = v.length → ∀ (acc p1 : List S53) (p2 : List S88) (p3 : Int), acc.length ≤ v.length + 1 + i →
    EvX (fun k => spec_l12Vol.c18 k (i : Int) v a n t w s c p1 p2 p3 u b m acc) (fun r => r = (acc ++ (v.drop i).filter (fun y => decide (y.f0 > w)), b, m, true)) := by
  intro d
  induction d with
  | zero =>
    intro i hi acc p1 p2 p3 hl
    rw [List.drop_eq_nil_of_le (by omega)]
    refine evx_step (fun k => by rw [spec_l12Vol.c18]) (evx_neg (by omega) (evx_some (by simp)))
  | succ d ih =>
    intro i hi acc p1 p2 p3 hl
    have hil : i < v.length := by omega
    rw [drop_one z53 hil, List.filter_cons]
    refine evx_step (fun k => by rw [spec_l12Vol.c18]) (evx_pos (by omega) (evx_pos (by omega) (evx_pos (by omega) ?_)))
    rw [m64 (n := v.length) hil (by omega), show rd_T53 v (i : Int) = v.getD i z53 from rfl]
    refine evx_ite (fun h => ?_) (fun h => ?_)
    · rw [if_pos (decide_eq_true h)]
      refine evx_pos (by omega) (evx_pos (by omega) (evx_pos (by show acc.length + 1 ≤ _; omega) ?_))
      refine evx_mono (ih (i + 1) (by omega) (acc ++ [v.getD i z53]) p1 p2 p3 (by simp; omega)) fun r hr => ?_
      rw [hr, List.append_assoc]; rfl
    · rw [if_neg (by rw [decide_eq_false h]; decide)]
      exact ih (i + 1) (by omega) acc p1 p2 p3 (by omega)
theorem sIns1X (v : List S53) (w : Int) (root : Int) (a : List S88) (n t s c : Int) (u : List S53) (b : List S88) (m : Int) (hv : v.length ≤ 1048576) : ∀ (d i : Nat), i + d = v.length → ∀ (acc p1 : List S53) (p2 : List S88) (p3 : Int), acc.length ≤ i →
    EvX (fun k => spec_l12Vol.c12 k root (i : Int) v a n t w s c p1 p2 p3 u b m acc) (fun r => r = (acc ++ (v.drop i).filter (fun y => decide (y.f0 < w)) ++ [⟨w, root⟩] ++ v.filter (fun y => decide (y.f0 > w)), b, m, true)) := by
  intro d
  induction d with
  | zero =>
    intro i hi acc p1 p2 p3 hl
    rw [List.drop_eq_nil_of_le (by omega), List.filter_nil, List.append_nil]
    refine evx_step (fun k => by rw [spec_l12Vol.c12]) (evx_neg (by omega) (evx_pos (by show acc.length + 1 ≤ _; omega) ?_))
    exact sIns2X v w root a n t s c u b m hv v.length 0 (by omega) (acc ++ [⟨w, root⟩]) p1 p2 p3 (by simp; omega)
  | succ d ih =>
    intro i hi acc p1 p2 p3 hl
    have hil : i < v.length := by omega
    rw [drop_one z53 hil, List.filter_cons]
    refine evx_step (fun k => by rw [spec_l12Vol.c12]) (evx_pos (by omega) (evx_pos (by omega) (evx_pos (by omega) ?_)))
    rw [m64 (n := v.length) hil (by omega), show rd_T53 v (i : Int) = v.getD i z53 from rfl]
    refine evx_ite (fun h => ?_) (fun h => ?_)
    · rw [if_pos (decide_eq_true h)]
      refine evx_pos (by omega) (evx_pos (by omega) (evx_pos (by show acc.length + 1 ≤ _; omega) ?_))
      refine evx_mono (ih (i + 1) (by omega) (acc ++ [v.getD i z53]) p1 p2 p3 (by simp; omega)) fun r hr => ?_
      rw [hr]
      simp only [List.append_assoc]; rfl
    · rw [if_neg (by rw [decide_eq_false h]; decide)]
      exact ih (i + 1) (by omega) acc p1 p2 p3 (by omega)
theorem sVolX (v : List S53) (a : List S88) (n t w s c : Int) (hv : v.length ≤ 1048576) (hn : a.length ≤ 1048576) (hx : Sz a) :
    EvX (fun k => spec_l12Vol.f k v a n t w s c) (fun r => r = if (s > 0 ∧ volB v s = -1) ∨ ¬ volB v w = -1 ∨ v.length = 3 then (v, a, n, false) else (insV v ⟨w, rootOf v s⟩, a, n, true)) := by
  simp only [spec_l12Vol.f]
  have rest : ∀ root : Int, ¬ (s > 0 ∧ volB v s = -1) → rootOf v s = root → EvX (fun k => (spec_l12At.f k v a n w).bind fun t3 => if t3 ≥ 0 then (spec_l12Copy.f k v a n).bind fun t4 => some (t4.1, t4.2.1, t4.2.2, false) else if (v.length : Int) = 3 then (spec_l12Copy.f k v a n).bind fun t5 => some (t5.1, t5.2.1, t5.2.2, false) else (spec_l12Copy.f k v a n).bind fun t6 => spec_l12Vol.c12 k root 0 v a n t w s c ([] : List S53) ([] : List S88) 0 t6.1 t6.2.1 t6.2.2 ([] : List S53))
      (fun r => r = if (s > 0 ∧ volB v s = -1) ∨ ¬ volB v w = -1 ∨ v.length = 3 then (v, a, n, false) else (insV v ⟨w, rootOf v s⟩, a, n, true)) := by
    intro root hno hr
    refine evx_bind (sVolAtX v a n w hv) fun t3 e3 => ?_
    subst e3
    refine evx_ite (fun h => ?_) (fun h => ?_)
    · refine evx_bind (sCopyX v a n hv hn hx) fun t e => evx_some ?_
      subst e
      rw [if_pos (.inr (.inl (by omega)))]
    · have h1 : volB v w = -1 := by rcases volB_cases v w with h2 | ⟨j, _, h2⟩ <;> omega
      refine evx_ite (fun h3 => ?_) (fun h3 => ?_)
      · refine evx_bind (sCopyX v a n hv hn hx) fun t e => evx_some ?_
        subst e
        rw [if_pos (.inr (.inr (by omega)))]
      · refine evx_bind (sCopyX v a n hv hn hx) fun t6 e => ?_
        subst e
        rw [if_neg (fun g => g.elim hno (fun g => g.elim (fun g => g h1) (fun g => h3 (by omega)))), hr]
        exact sIns1X v w root a n t s c v a n hv v.length 0 (by omega) [] [] [] 0 (Nat.le_refl _)
  refine evx_ite (fun hs => ?_) (fun hs => ?_)
  · refine evx_bind (sVolAtX v a n s hv) fun t1 e1 => ?_
    subst e1
    refine evx_ite (fun h => ?_) (fun h => ?_)
    · have h1 : volB v s = -1 := by rcases volB_cases v s with h2 | ⟨j, _, h2⟩ <;> omega
      refine evx_bind (sCopyX v a n hv hn hx) fun t e => evx_some ?_
      subst e
      rw [if_pos (.inl ⟨hs, h1⟩)]
    · rcases volB_cases v s with h2 | ⟨j, hj, h2⟩
      · omega
      · refine evx_pos (by omega) (evx_pos (by omega) (rest _ (fun g => by omega) ?_))
        unfold rootOf
        rw [if_pos hs]; rfl
  · refine rest (-1) (fun g => hs g.1) ?_
    unfold rootOf
    rw [if_neg hs]
/-- The first so many volumes have other roots. -/
def zipN (v : List S53) (rs : List Int) (i : Nat) : List S53 := (List.range' 0 v.length).map fun j => if j < i then ⟨(v.getD j z53).f0, rs.getD j 0⟩ else v.getD j z53
theorem zipN_len (v : List S53) (rs : List Int) (i : Nat) : (zipN v rs i).length = v.length := by simp [zipN]
theorem zipN_get {v : List S53} {rs : List Int} {i j : Nat} (h : j < v.length) : (zipN v rs i)[j]? = some (if j < i then ⟨(v.getD j z53).f0, rs.getD j 0⟩ else v.getD j z53) := by
  unfold zipN
  rw [List.getElem?_map, List.getElem?_range' h]
  simp
theorem zipN_zero (v : List S53) (rs : List Int) : zipN v rs 0 = v := by
  apply List.ext_getElem
  · exact zipN_len v rs 0
  · intro j h1 h2
    have e := zipN_get (rs := rs) (i := 0) h2
    rw [List.getElem?_eq_getElem h1, if_neg (by omega), gdE _ h2] at e
    exact Option.some.inj e
theorem zipN_all (v : List S53) (rs : List Int) : zipN v rs v.length = zipR v rs := by
  unfold zipN zipR
  refine List.map_congr_left fun j hj => ?_
  rw [List.mem_range'_1] at hj
  rw [if_pos (by omega)]
theorem zipN_next {v : List S53} {rs : List Int} {i : Nat} (h : i < v.length) : (zipN v rs i).set i ⟨(v.getD i z53).f0, rs.getD i 0⟩ = zipN v rs (i + 1) := by
  apply List.ext_getElem?
  intro j
  rw [List.getElem?_set]
  by_cases e : i = j
  · subst e
    rw [if_pos rfl, if_pos (by rw [zipN_len]; exact h), zipN_get h, if_pos (by omega)]
  · rw [if_neg e]
    by_cases hj : j < v.length
    · rw [zipN_get hj, zipN_get hj]
      by_cases h2 : j < i
      · rw [if_pos h2, if_pos (by omega)]
      · rw [if_neg h2, if_neg (by omega)]
    · rw [List.getElem?_eq_none (by rw [zipN_len]; omega), List.getElem?_eq_none (by rw [zipN_len]; omega)]
theorem sSweptX (v : List S53) (a : List S88) (n : Int) (hv : v.length ≤ 1048576) (hn : a.length ≤ 1048576) (hx : Sz a) (hl : (sweepB a (rootsB v)).2.length = v.length) : EvX (fun k => spec_l12Swept.f k v a n) (fun r => r = (sweptV v a, sweptA v a, n)) := by
  simp only [spec_l12Swept.f]
  refine evx_bind (sRootsX v a n hv) fun t1 e1 => ?_
  subst e1
  refine evx_bind (sSweepX a (rootsB v) hn hx (by rw [rootsB_len]; exact hv)) fun t2 e2 => ?_
  subst e2
  refine evx_pos (by show 0 + v.length ≤ _; omega) ?_
  have main : ∀ (d i : Nat), i + d = v.length → ∀ (p1 : List S53) (p2 : List S88) (p3 : Int), EvX (fun k => spec_l12Swept.c4 k (i : Int) p1 p2 p3 (sweepB a (rootsB v)).2 (zipN v (sweepB a (rootsB v)).2 i) (sweepB a (rootsB v)).1 n) (fun r => r = (sweptV v a, sweptA v a, n)) := by
    intro d
    induction d with
    | zero =>
      intro i hi p1 p2 p3
      obtain rfl : i = v.length := by omega
      refine evx_step (fun k => by rw [spec_l12Swept.c4]) (evx_neg (by rw [zipN_len]; omega) (evx_some ?_))
      rw [zipN_all]; rfl
    | succ d ih =>
      intro i hi p1 p2 p3
      have hil : i < v.length := by omega
      refine evx_step (fun k => by rw [spec_l12Swept.c4]) (evx_pos (by rw [zipN_len]; omega) (evx_pos (by omega) (evx_pos (by omega) (evx_pos (by omega) (evx_pos (by rw [zipN_len]; omega) ?_)))))
      have e : rd_T53 (zipN v (sweepB a (rootsB v)).2 i) (i : Int) = v.getD i z53 := by
        show (zipN v (sweepB a (rootsB v)).2 i).getD i z53 = _
        rw [List.getD_eq_getElem?_getD, zipN_get hil, if_neg (by omega)]; rfl
      rw [e, Int.toNat_natCast, m64 (n := v.length) hil (by omega)]
      have h := ih (i + 1) (by omega) p1 p2 p3
      rw [← zipN_next hil] at h
      exact h
  have h := main v.length 0 (by omega) [] [] 0
  rw [zipN_zero] at h
  exact h
/-- A record entered. -/
def entR (v : List S53) (a : List S88) (n t w s c : Int) : List S53 × List S88 × Int × Bool × List S53 × List S88 :=
  match enterB v a n t w s c with
  | some (v', a', n') => (v', a', n', true, v, a)
  | none => (v, a, n, false, v, a)
theorem sweep_roots {v : List S53} {a : List S88} {n : Int} (h : Half v a n) : (sweepB a (rootsB v)).2.length = v.length := by
  have := (swept h.2.1 (rootsOk fun x hx => (h.2.2.2.2 x hx).2.1)).2.1
  rw [rootsB_len] at this
  exact this
theorem enterX (v : List S53) (a : List S88) (n t w s c : Int) (hv : v.length ≤ 1048576) (hn : a.length ≤ 1000000) (hx : Sz a) : EvX (fun k => spec_Enter.f k n t w s c v a) (fun r => r = entR v a n t w s c) := by
  simp only [spec_Enter.f]
  have copy : ∀ (P : Prop), enterB v a n t w s c = none → EvX (fun k => (spec_l12Copy.f k v a n).bind fun t2 => some (t2.1, t2.2.1, t2.2.2, false, v, a)) (fun r => r = entR v a n t w s c) := fun _ h => by
    refine evx_bind (sCopyX v a n hv (by omega) hx) fun t e => evx_some ?_
    subst e
    unfold entR
    rw [h]
  refine evx_bind (sStoreOkX v a n hv (by omega) hx) fun t1 e1 => ?_
  subst e1
  refine evx_ite (fun h1 => ?_) (fun h1 => copy True ?_)
  rotate_left
  · unfold enterB; rw [if_neg fun g => h1 g.1]
  refine evx_bind (sRecOkX t w s c) fun t3 e3 => ?_
  subst e3
  refine evx_ite (fun h2 => ?_) (fun h2 => copy True ?_)
  rotate_left
  · unfold enterB; rw [if_neg fun g => h2 g.2]
  have h1 : storeB v a n = true := h1
  obtain ⟨hh, hf⟩ := right_iff.1 h1
  have hro := h2
  unfold recOk at hro
  rw [decide_eq_true_eq] at hro
  refine evx_ite (fun k1 => ?_) (fun k1 => ?_)
  · have e : enterB v a n t w s c = some ([], [], if s = 0 then 1 else s) := by unfold enterB; rw [if_pos ⟨h1, h2⟩, if_pos k1]
    unfold entR
    rw [e]
    refine evx_ite (fun k0 => evx_some ?_) (fun k0 => evx_some ?_)
    · rw [if_pos k0]
    · rw [if_neg k0]
  refine evx_ite (fun k2 => ?_) (fun k2 => ?_)
  · refine evx_bind (sVolX v a n t w s c hv (by omega) hx) fun t5 e5 => evx_some ?_
    subst e5
    have hE2 : enterB v a n t w s c = if (s > 0 ∧ volB v s = -1) ∨ ¬ volB v w = -1 ∨ v.length = 3 then none else some (insV v ⟨w, rootOf v s⟩, a, n) := by unfold enterB; rw [if_pos ⟨h1, h2⟩, if_neg k1, if_pos k2]
    unfold entR
    rw [hE2]
    by_cases g : (s > 0 ∧ volB v s = -1) ∨ ¬ volB v w = -1 ∨ v.length = 3
    · rw [if_pos g, if_pos g]
    · rw [if_neg g, if_neg g]
  refine evx_bind (sVolAtX v a n w hv) fun t6 e6 => ?_
  subst e6
  have hE : enterB v a n t w s c = if volB v w = -1 ∨ c = 1000000000 then none
    else if t = 3 then some (sweptV (v.take (volB v w).toNat ++ v.drop ((volB v w).toNat + 1)) a, sweptA (v.take (volB v w).toNat ++ v.drop ((volB v w).toNat + 1)) a, n)
    else some (sweptV (v.set (volB v w).toNat ⟨(v.getD (volB v w).toNat z53).f0, (putB a (v.getD (volB v w).toNat z53).f1 s c).2⟩) (putB a (v.getD (volB v w).toNat z53).f1 s c).1,
      sweptA (v.set (volB v w).toNat ⟨(v.getD (volB v w).toNat z53).f0, (putB a (v.getD (volB v w).toNat z53).f1 s c).2⟩) (putB a (v.getD (volB v w).toNat z53).f1 s c).1, if c ≥ n then c + 1 else n) := by
    unfold enterB; rw [if_pos ⟨h1, h2⟩, if_neg k1, if_neg k2]
  refine evx_ite (fun h3 => copy True ?_) (fun h3 => ?_)
  · have e : volB v w = -1 := by rcases volB_cases v w with h4 | ⟨j, _, h4⟩ <;> omega
    rw [hE, if_pos (.inl e)]
  refine evx_ite (fun h4 => copy True ?_) (fun h4 => ?_)
  · rw [hE, if_pos (.inr h4)]
  have hne : ¬ volB v w = -1 := by omega
  obtain ⟨j, j1, j2, j3⟩ := volB_some hne
  rw [if_neg (fun g => g.elim hne h4)] at hE
  refine evx_bind (sCopyX v a n hv (by omega) hx) fun t9 e9 => ?_
  subst e9
  rw [j2] at hE ⊢
  simp only [Int.toNat_natCast] at hE ⊢
  refine evx_ite (fun h5 => ?_) (fun h5 => ?_)
  · rw [if_pos h5] at hE
    rw [m64 (i := j) (n := v.length) j1 (by omega)]
    simp only [Int.toNat_natCast, List.drop_zero, Nat.sub_zero, List.nil_append]
    have tk : (v.drop (j + 1)).take (v.length - (j + 1)) = v.drop (j + 1) := List.take_of_length_le (by rw [List.length_drop]; omega)
    rw [tk]
    have hd := half_drop hh j
    have l1 := hd.1
    refine evx_pos (by omega) (evx_pos (by omega) (evx_pos (by rw [List.length_take]; show 0 + _ ≤ _; omega) (evx_pos (by omega) (evx_pos (by omega) (evx_pos (by rw [List.length_take, List.length_drop]; omega) ?_)))))
    refine evx_bind (sSweptX _ a n (by omega) (by omega) hx (sweep_roots hd)) fun t10 e10 => evx_some ?_
    subst e10
    unfold entR
    rw [hE]
  · rw [if_neg h5] at hE
    obtain ⟨hcan, hp⟩ := half_put (s := s) (c := c) hh j1 (by omega) (by omega) (by omega)
    refine evx_pos (by omega) (evx_pos (by omega) ?_)
    rw [show rd_T53 v (j : Int) = v.getD j z53 from rfl]
    refine evx_bind (sPutX a _ s c (by omega) hx) fun t11 e11 => ?_
    subst e11
    refine evx_pos (by omega) (evx_pos (by omega) ?_)
    have pl := put_len hcan
    have px : Sz (putB a (v.getD j z53).f1 s c).1 := woods_le (put_arena hcan)
    refine evx_ite (fun h6 => ?_) (fun h6 => ?_)
    · rw [if_pos h6] at hE hp
      rw [m64i (x := c + 1) (by omega) (by omega)]
      refine evx_bind (sSweptX _ _ (c + 1) (by rw [List.length_set]; exact hv) (by omega) px (sweep_roots hp)) fun t12 e12 => evx_some ?_
      subst e12
      unfold entR
      rw [hE]
    · rw [if_neg h6] at hE hp
      refine evx_bind (sSweptX _ _ n (by rw [List.length_set]; exact hv) (by omega) px (sweep_roots hp)) fun t12 e12 => evx_some ?_
      subst e12
      unfold entR
      rw [hE]
end Go.Proofs.Yteideicglgpfiaa.M2.Mp

/- A number in bytes, as one list; the program's VarText and the reference's l01Var tell it. -/
namespace Go.Proofs.Yteideicglgpfiaa.Pu
set_option linter.unusedVariables false
set_option linter.unusedSimpArgs false
open Go.RowKit Go.Proofs.Yteideicglgpfiaa.PK Go.Proofs.YteideicglgpfiaaW.PrintWords

/-- The bytes of a number, seven bits at a time. -/
def varL (n : Nat) : List Int := if h : n > 127 then ((n % 128 + 128 : Nat) : Int) :: varL (n / 128) else [(n : Int)]
theorem varL_long {n : Nat} (h : n > 127) : varL n = ((n % 128 + 128 : Nat) : Int) :: varL (n / 128) := by rw [varL, dif_pos h]
theorem varL_short {n : Nat} (h : ¬ n > 127) : varL n = [(n : Int)] := by rw [varL, dif_neg h]
theorem varL_len : ∀ (d n : Nat), n < 128 ^ (d + 1) → (varL n).length ≤ d + 1 ∧ 1 ≤ (varL n).length
  | 0, n, h => by rw [varL_short (by omega)]; simp
  | d + 1, n, h => by
    by_cases hn : n > 127
    · rw [varL_long hn]
      have := varL_len d (n / 128) (by rw [Nat.pow_succ] at h; omega)
      simp only [List.length_cons]
      omega
    · rw [varL_short hn]; simp
theorem varL_len5 {n : Nat} (h : n ≤ 1000000000) : (varL n).length ≤ 5 ∧ 1 ≤ (varL n).length := varL_len 4 n (by omega)
theorem wbyte {n : Nat} (h : n > 127) (hn : n ≤ 1000000000) : wrap64 (Int.tdiv (n : Int) 128) = ((n / 128 : Nat) : Int) ∧ wrap64 (Int.tmod (n : Int) 128 + 128) % 256 = ((n % 128 + 128 : Nat) : Int) := by
  rw [Int.tdiv_eq_ediv_of_nonneg (by omega), Int.tmod_eq_emod_of_nonneg (by omega), w64 (by omega) (by omega), w64 (by omega) (by omega)]
  omega
theorem strOf_size (l : List Int) : (strOfNums l).size = l.length := by
  unfold strOfNums
  simp [ByteArray.size]
end Go.Proofs.Yteideicglgpfiaa.Pu

/- A number read from bytes, as one function; the program's and the reference's ReadVar tell it, and it reads what VarText writes. -/
namespace Go.Proofs.Yteideicglgpfiaa.Pu
set_option linter.unusedVariables false
set_option linter.unusedSimpArgs false
open Go.RowKit Go.Proofs.Yteideicglgpfiaa.PK Go.Proofs.YteideicglgpfiaaW.PrintWords

/-- A text's bytes. -/
def byt (t : ByteArray) : List Nat := t.data.toList.map UInt8.toNat
theorem byt_len (t : ByteArray) : (byt t).length = t.size := by unfold byt; rw [List.length_map, Array.length_toList]; rfl
theorem bt_byt (t : ByteArray) (i : Nat) : bt t (i : Int) = (((byt t).getD i 0 : Nat) : Int) := by
  unfold bt
  by_cases h : i < t.size
  · rw [dif_pos (show ((i : Int)).toNat < t.size from h)]
    rw [List.getD_eq_getElem?_getD, List.getElem?_eq_getElem (by rw [byt_len]; exact h)]
    unfold byt
    rw [List.getElem_map, Array.getElem_toList]
    rfl
  · rw [dif_neg (show ¬ ((i : Int)).toNat < t.size from h), List.getD_eq_getElem?_getD, List.getElem?_eq_none (by rw [byt_len]; omega)]; rfl
theorem byt_lt (t : ByteArray) : ∀ b ∈ byt t, b < 256 := by
  intro b hb
  obtain ⟨x, _, rfl⟩ := List.mem_map.1 hb
  exact UInt8.toNat_lt x
theorem byt_get_lt (t : ByteArray) (i : Nat) : (byt t).getD i 0 < 256 := by
  by_cases h : i < (byt t).length
  · exact byt_lt t _ (getD_mem' h)
  · rw [List.getD_eq_getElem?_getD, List.getElem?_eq_none (by omega)]; exact by decide
theorem byt_inj {s t : ByteArray} (h : byt s = byt t) : s = t := by
  unfold byt at h
  have h2 := (List.map_inj_right (fun a b e => UInt8.toNat_inj.1 e)).1 h
  have h3 := Array.toList_inj.1 h2
  cases s; cases t; simp only at h3; rw [h3]
theorem byt_app (s t : ByteArray) : byt (s ++ t) = byt s ++ byt t := by
  unfold byt
  rw [show (s ++ t).data = s.data ++ t.data from ByteArray.data_append, Array.toList_append, List.map_append]
theorem byt_empty : byt ⟨#[]⟩ = [] := rfl
theorem byt_str (l : List Int) (h : ∀ x ∈ l, 0 ≤ x ∧ x < 256) : byt (strOfNums l) = l.map Int.toNat := by
  unfold byt strOfNums
  rw [List.map_map]
  refine List.map_congr_left fun x hx => ?_
  have := h x hx
  show (UInt8.ofNat x.toNat).toNat = x.toNat
  rw [UInt8.toNat_ofNat']
  omega
theorem byt_sub (t : ByteArray) (a b : Nat) : byt (t.extract a b) = ((byt t).drop a).take (b - a) := by
  unfold byt
  rw [ByteArray.data_extract, Array.toList_extract, List.extract_eq_take_drop, List.map_take, List.map_drop]
theorem toList_iff (s t : ByteArray) : s.toList = t.toList ↔ byt s = byt t := by
  rw [ByteArray.toList_eq, ByteArray.toList_eq]
  constructor
  · intro h; unfold byt; rw [h]
  · intro h; rw [byt_inj h]

theorem varL_byte (n : Nat) : ∀ y ∈ varL n, 0 ≤ y ∧ y < 256 := by
  induction n using Nat.strongRecOn with
  | _ n ih =>
    intro y hy
    by_cases hn : n > 127
    · rw [varL_long hn] at hy
      rcases List.mem_cons.1 hy with hy | hy
      · omega
      · exact ih (n / 128) (by omega) y hy
    · rw [varL_short hn] at hy
      obtain rfl := List.mem_singleton.1 hy
      omega
/-- The number that bytes mean. -/
def valB : List Nat → Nat
  | [] => 0
  | b :: r => b % 128 + 128 * valB r
theorem val_snoc : ∀ (l : List Nat) (x : Nat), valB (l ++ [x]) = valB l + x % 128 * 128 ^ l.length
  | [], x => by simp [valB]
  | b :: r, x => by
    show b % 128 + 128 * valB (r ++ [x]) = b % 128 + 128 * valB r + x % 128 * 128 ^ (r.length + 1)
    rw [val_snoc r x, Nat.mul_add, Nat.pow_succ, ← Nat.add_assoc]
    congr 1
    rw [Nat.mul_comm 128, Nat.mul_assoc]
theorem val_lt : ∀ l : List Nat, valB l < 128 ^ l.length
  | [] => by decide
  | b :: r => by
    have := val_lt r
    show b % 128 + 128 * valB r < 128 ^ (r.length + 1)
    rw [Nat.pow_succ]
    omega
theorem val_pos : ∀ (pre : List Nat) {x : Nat}, x < 128 → x ≠ 0 → 1 ≤ valB (pre ++ [x])
  | [], x, h, h0 => by show 1 ≤ x % 128 + 128 * 0; omega
  | b :: r, x, h, h0 => by
    have := val_pos r h h0
    show 1 ≤ b % 128 + 128 * valB (r ++ [x])
    omega
theorem canon1 : ∀ (pre : List Nat) {x : Nat}, (∀ b ∈ pre, 128 ≤ b ∧ b < 256) → x < 128 → (pre = [] ∨ x ≠ 0) → varL (valB (pre ++ [x])) = (pre ++ [x]).map fun b : Nat => (b : Int)
  | [], x, _, hx, _ => by
    have e : valB ([] ++ [x]) = x := by show x % 128 + 128 * 0 = x; omega
    rw [e, varL_short (by omega)]; rfl
  | b :: r, x, h, hx, h0 => by
    have hx0 : x ≠ 0 := by
      rcases h0 with h0 | h0
      · cases h0
      · exact h0
    have hp := val_pos r hx hx0
    have hb := h b List.mem_cons_self
    have e : valB (b :: r ++ [x]) = b % 128 + 128 * valB (r ++ [x]) := rfl
    rw [e, varL_long (by omega), show (b % 128 + 128 * valB (r ++ [x])) / 128 = valB (r ++ [x]) by omega, canon1 r (fun c hc => h c (List.mem_cons_of_mem _ hc)) hx (.inr hx0)]
    have e3 : (((b % 128 + 128 * valB (r ++ [x])) % 128 + 128 : Nat) : Int) = (b : Int) := by omega
    rw [e3]; rfl
theorem varL_zero {n : Nat} (h : varL n = [0]) : n = 0 := by
  by_cases hn : n > 127
  · rw [varL_long hn] at h
    have h1 := congrArg List.length h
    have h2 := (varL_len n (n / 128) (by
      have : n < 128 ^ n := Nat.lt_pow_self (by decide)
      rw [Nat.pow_succ]; omega)).2
    simp only [List.length_cons, List.length_nil] at h1
    omega
  · rw [varL_short hn] at h
    injection h with h1
    omega
theorem canon2 : ∀ (n : Nat) (l : List Int), varL n = l ++ [0] → l = [] := by
  intro n
  induction n using Nat.strongRecOn with
  | _ n ih =>
    intro l h
    by_cases hn : n > 127
    · rw [varL_long hn] at h
      cases l with
      | nil => rfl
      | cons c l =>
        injection h with h1 h2
        have := ih (n / 128) (by omega) l h2
        subst this
        have := varL_zero h2
        omega
    · rw [varL_short hn] at h
      cases l with
      | nil => rfl
      | cons c l =>
        injection h with h1 h2
        have := congrArg List.length h2
        simp at this
/-- A number read from bytes: the number, and how many bytes. -/
def rvL : List Nat → Nat → Nat → Nat → Option (Nat × Nat)
  | _, 0, _, _ => none
  | [], _ + 1, _, _ => none
  | x :: r, d + 1, k, n => if x ≥ 128 then rvL r d (k + 1) (n + x % 128 * 128 ^ k) else if (x = 0 ∧ k > 0) ∨ n + x % 128 * 128 ^ k > 1000000000 then none else some (n + x % 128 * 128 ^ k, k + 1)
def rvRes (a : Int) : Option (Nat × Nat) → Int × Int × Bool
  | none => (0, 0, false)
  | some z => ((z.1 : Int), a + (z.2 : Int), true)
def rvB (t : ByteArray) (a : Int) : Int × Int × Bool := if 0 ≤ a ∧ a ≤ (t.size : Int) then rvRes a (rvL ((byt t).drop a.toNat) 5 0 0) else (0, 0, false)
theorem drop_byt {t : ByteArray} {i : Nat} (h : i < t.size) : (byt t).drop i = (byt t).getD i 0 :: (byt t).drop (i + 1) := by
  rw [List.drop_eq_getElem_cons (by rw [byt_len]; exact h), List.getD_eq_getElem?_getD, List.getElem?_eq_getElem (by rw [byt_len]; exact h)]; rfl
theorem shl7 {x k : Nat} (hx : x < 128) (hk : k < 5) : shl .i64 (x : Int) (wrap64 (7 * (k : Int))) = ((x * 128 ^ k : Nat) : Int) := by
  have e : wrap64 (7 * (k : Int)) = 7 * (k : Int) := w64 (by omega) (by omega)
  rw [e]
  have h := shl_small (k := .i64) (x := (x : Int)) (y := 7 * (k : Int)) rfl (by show (7 * (k : Int)) ≤ ((IntKind.bits .i64 : Nat) : Int); rw [show IntKind.bits .i64 = 64 from rfl]; omega)
  rw [← h, show (7 * (k : Int)).toNat = 7 * k by omega]
  have p : (128 : Nat) ^ k = 2 ^ (7 * k) := by rw [Nat.pow_mul]
  have q : (128 : Nat) ^ k ≤ 128 ^ 4 := Nat.pow_le_pow_right (by decide) (by omega)
  have e2 : (x : Int) * 2 ^ (7 * k) = ((x * 128 ^ k : Nat) : Int) := by rw [p]; push_cast; rfl
  rw [e2, Go.IntKind.wrap_i64]
  have : x * 128 ^ k ≤ 127 * 128 ^ 4 := Nat.mul_le_mul (by omega) q
  omega
theorem tmod128 (x : Nat) : Int.tmod (wrap64 ((x : Nat) : Int)) 128 = (((if x < 9223372036854775808 then x % 128 else 0 : Nat)) : Int) ∨ 9223372036854775808 ≤ x := by
  by_cases h : x < 9223372036854775808
  · left; rw [if_pos h, w64 (by omega) (by omega), Int.tmod_eq_emod_of_nonneg (by omega)]; omega
  · right; omega
theorem tmod128' {x : Nat} (h : x < 256) : Int.tmod (wrap64 ((x : Nat) : Int)) 128 = ((x % 128 : Nat) : Int) := by
  rw [w64 (by omega) (by omega), Int.tmod_eq_emod_of_nonneg (by omega)]; omega
theorem pow5 {k : Nat} (h : k ≤ 5) : (128 : Nat) ^ k ≤ 34359738368 := Nat.le_trans (Nat.pow_le_pow_right (by decide) h) (by decide)
theorem step_lt {n x k : Nat} (hn : n < 128 ^ k) : n + x % 128 * 128 ^ k < 128 ^ (k + 1) := by
  rw [Nat.pow_succ]
  have : x % 128 * 128 ^ k ≤ 127 * 128 ^ k := Nat.mul_le_mul_right _ (by omega)
  omega
theorem rvL_zero (l : List Nat) (k n : Nat) : rvL l 0 k n = none := by cases l <;> rfl
theorem rvL_nil (d k n : Nat) : rvL [] d k n = none := by cases d <;> rfl
theorem rvL_cons (x : Nat) (r : List Nat) (d k n : Nat) : rvL (x :: r) (d + 1) k n = if x ≥ 128 then rvL r d (k + 1) (n + x % 128 * 128 ^ k) else if (x = 0 ∧ k > 0) ∨ n + x % 128 * 128 ^ k > 1000000000 then none else some (n + x % 128 * 128 ^ k, k + 1) := by rw [rvL]
theorem res_some {a : Int} {M k : Nat} {b : Int} (h : b = a + ((k + 1 : Nat) : Int)) : some ((M : Int), b, true) = some (rvRes a (some (M, k + 1))) := by subst h; rfl
theorem natcast_map {V : List Int} (h : ∀ y ∈ V, 0 ≤ y) : (V.map Int.toNat).map (fun b : Nat => (b : Int)) = V := by
  induction V with
  | nil => rfl
  | cons y V ih =>
    have := h y List.mem_cons_self
    show ((y.toNat : Nat) : Int) :: (V.map Int.toNat).map (fun b : Nat => (b : Int)) = y :: V
    rw [ih fun z hz => h z (List.mem_cons_of_mem _ hz), show ((y.toNat : Nat) : Int) = y by omega]
theorem toNat_map : ∀ l : List Nat, (l.map fun b : Nat => (b : Int)).map Int.toNat = l
  | [] => rfl
  | y :: l => by
    show ((y : Nat) : Int).toNat :: (l.map fun b : Nat => (b : Int)).map Int.toNat = y :: l
    rw [toNat_map l, Int.toNat_natCast]
/-- What the reference holds a number's bytes against. -/
theorem sRV_key {t : ByteArray} {a k x : Nat} {pre : List Nat} (hl : pre.length = k) (es : (byt t).drop a = (pre ++ [x]) ++ (byt t).drop (a + (k + 1))) (hb : ∀ b ∈ pre, 128 ≤ b ∧ b < 256) (hx : x < 128) :
    (strOfNums (varL (valB (pre ++ [x])))).toList = (t.extract a (a + k + 1)).toList ↔ (pre = [] ∨ x ≠ 0) := by
  have seg : byt (t.extract a (a + k + 1)) = pre ++ [x] := by
    rw [byt_sub, es, show a + k + 1 - a = (pre ++ [x]).length by simp; omega, List.take_left]
  have vb := varL_byte (valB (pre ++ [x]))
  rw [toList_iff, seg, byt_str _ vb]
  constructor
  · intro h
    by_cases h0 : x = 0
    · left
      subst h0
      have e2 := congrArg (List.map fun b : Nat => (b : Int)) h
      rw [natcast_map fun y hy => (vb y hy).1] at e2
      rw [List.map_append] at e2
      exact List.map_eq_nil_iff.1 (canon2 _ _ e2)
    · exact .inr h0
  · intro h
    rw [canon1 pre hb hx h, toNat_map]
end Go.Proofs.Yteideicglgpfiaa.Pu

/- Records read from bytes, as one function; the program's and the reference's ReadRecs tell them. -/
namespace Go.Proofs.Yteideicglgpfiaa.Pu
set_option linter.unusedVariables false
set_option linter.unusedSimpArgs false
open Go.RowKit Go.Proofs.Yteideicglgpfiaa.PK Go.Proofs.YteideicglgpfiaaW.PrintWords

theorem rvL_range : ∀ (l : List Nat) (d k n : Nat) {m c : Nat}, rvL l d k n = some (m, c) → k + 1 ≤ c ∧ c ≤ k + l.length ∧ m ≤ 1000000000
  | l, 0, k, n, m, c, h => by rw [rvL_zero] at h; cases h
  | [], d + 1, k, n, m, c, h => by rw [rvL_nil] at h; cases h
  | x :: r, d + 1, k, n, m, c, h => by
    rw [rvL_cons] at h
    by_cases h1 : x ≥ 128
    · rw [if_pos h1] at h
      have := rvL_range r d (k + 1) _ h
      simp only [List.length_cons]
      omega
    · rw [if_neg h1] at h
      by_cases h2 : (x = 0 ∧ k > 0) ∨ n + x % 128 * 128 ^ k > 1000000000
      · rw [if_pos h2] at h; cases h
      · rw [if_neg h2] at h
        injection h with h
        injection h with h3 h4
        simp only [List.length_cons]
        omega
theorem rvB_range (t : ByteArray) (a : Int) : ((rvB t a).2.2 = false ∧ rvB t a = (0, 0, false)) ∨ ((rvB t a).2.2 = true ∧ 0 ≤ a ∧ a < (rvB t a).2.1 ∧ (rvB t a).2.1 ≤ (t.size : Int) ∧ 0 ≤ (rvB t a).1 ∧ (rvB t a).1 ≤ 1000000000) := by
  unfold rvB
  by_cases h : 0 ≤ a ∧ a ≤ (t.size : Int)
  · rw [if_pos h]
    cases e : rvL ((byt t).drop a.toNat) 5 0 0 with
    | none => exact .inl ⟨rfl, rfl⟩
    | some z =>
      obtain ⟨m, c⟩ := z
      have h1 := rvL_range _ _ _ _ e
      rw [List.length_drop, byt_len] at h1
      refine .inr ⟨rfl, ?_⟩
      show 0 ≤ a ∧ a < a + (c : Int) ∧ a + (c : Int) ≤ (t.size : Int) ∧ 0 ≤ (m : Int) ∧ (m : Int) ≤ 1000000000
      omega
  · rw [if_neg h]; exact .inl ⟨rfl, rfl⟩
def recEnd (t : ByteArray) (i : Nat) : Int := (rvB t (rvB t ((i + 1 : Nat) : Int)).2.1).2.1
def recMay (t : ByteArray) (i : Nat) : Bool := (rvB t ((i + 1 : Nat) : Int)).2.2 && (rvB t (rvB t ((i + 1 : Nat) : Int)).2.1).2.2
theorem div16 {x : Nat} (h : x < 256) : wrap64 (Int.tdiv (wrap64 ((x : Nat) : Int)) 16) = ((x / 16 : Nat) : Int) ∧ Int.tmod (wrap64 ((x : Nat) : Int)) 16 = ((x % 16 : Nat) : Int) := by
  rw [w64 (x := ((x : Nat) : Int)) (by omega) (by omega), Int.tdiv_eq_ediv_of_nonneg (by omega), Int.tmod_eq_emod_of_nonneg (by omega), w64 (by omega) (by omega)]
  omega
end Go.Proofs.Yteideicglgpfiaa.Pu

/- The bytes of a record; the program's and the reference's RecText tell them. -/
namespace Go.Proofs.Yteideicglgpfiaa.Pu
set_option linter.unusedVariables false
set_option linter.unusedSimpArgs false
open Go.RowKit Go.Proofs.Yteideicglgpfiaa.PK Go.Proofs.YteideicglgpfiaaW.PrintWords

def recText (t v a c : Int) : ByteArray := (strOfNums [(16 * t + v) % 256] ++ strOfNums (varL a.toNat)) ++ strOfNums (varL c.toNat)
def recTextR (t v a c : Int) : ByteArray × Bool := if recOk t v a c = true then (recText t v a c, true) else (⟨#[]⟩, false)
end Go.Proofs.Yteideicglgpfiaa.Pu

/- Records come back from their bytes; bytes that are records are the bytes of them. -/
namespace Go.Proofs.Yteideicglgpfiaa.Pu
set_option linter.unusedVariables false
set_option linter.unusedSimpArgs false
open Go.RowKit Go.Proofs.Yteideicglgpfiaa.PK Go.Proofs.YteideicglgpfiaaW.PrintWords

def varN (n : Nat) : List Nat := (varL n).map Int.toNat
theorem varN_long {n : Nat} (h : n > 127) : varN n = (n % 128 + 128) :: varN (n / 128) := by
  unfold varN; rw [varL_long h]; rfl
theorem varN_short {n : Nat} (h : ¬ n > 127) : varN n = [n] := by
  unfold varN; rw [varL_short h]; rfl
theorem varN_len (n : Nat) : (varN n).length = (varL n).length := List.length_map _
/-- A number that was written is read. -/
theorem rv_var (m : Nat) : ∀ (d k n0 : Nat) (rest : List Nat), (varN m).length ≤ d → n0 + m * 128 ^ k ≤ 1000000000 → (k = 0 ∨ m ≠ 0) → rvL (varN m ++ rest) d k n0 = some (n0 + m * 128 ^ k, k + (varN m).length) := by
  induction m using Nat.strongRecOn with
  | _ m ih =>
    intro d k n0 rest hd hn h0
    by_cases hm : m > 127
    · rw [varN_long hm] at hd ⊢
      cases d with
      | zero => simp at hd
      | succ d =>
        simp only [List.length_cons] at hd
        rw [List.cons_append, rvL_cons, if_pos (by omega), show (m % 128 + 128) % 128 = m % 128 by omega]
        have e : m * 128 ^ k = m % 128 * 128 ^ k + m / 128 * 128 ^ (k + 1) := by
          have h1 : m = m % 128 + 128 * (m / 128) := by omega
          conv => lhs; rw [h1]
          rw [Nat.add_mul, Nat.pow_succ]
          congr 1
          rw [Nat.mul_comm 128, Nat.mul_assoc, Nat.mul_comm 128]
        rw [e] at hn
        rw [ih (m / 128) (by omega) d (k + 1) _ rest (by omega) (by omega) (.inr (by omega)), e]
        simp only [List.length_cons]
        congr 2 <;> omega
    · rw [varN_short hm] at hd ⊢
      cases d with
      | zero => simp at hd
      | succ d =>
        rw [List.cons_append, rvL_cons, if_neg (by omega), show m % 128 = m by omega, if_neg (by omega)]
        rfl
theorem read_var {t : ByteArray} {a n : Nat} {rest : List Nat} (h : (byt t).drop a = varN n ++ rest) (ha : a ≤ t.size) (hn : n ≤ 1000000000) : rvB t (a : Int) = ((n : Int), ((a + (varN n).length : Nat) : Int), true) := by
  unfold rvB
  rw [if_pos (by omega), Int.toNat_natCast, h, rv_var n 5 0 0 rest (by rw [varN_len]; exact (varL_len5 hn).1) (by simpa using hn) (.inl rfl)]
  show (((0 + n * 128 ^ 0 : Nat) : Int), (a : Int) + ((0 + (varN n).length : Nat) : Int), true) = _
  rw [show 0 + n * 128 ^ 0 = n by simp, show (a : Int) + ((0 + (varN n).length : Nat) : Int) = ((a + (varN n).length : Nat) : Int) by omega]
/-- What was read is what is written. -/
theorem rv_back : ∀ (l : List Nat) (d : Nat) (pre : List Nat) {m c : Nat}, rvL l d pre.length (valB pre) = some (m, c) → (∀ b ∈ pre, 128 ≤ b ∧ b < 256) → (∀ b ∈ l, b < 256) → varN m = pre ++ l.take (c - pre.length)
  | l, 0, pre, m, c, h, _, _ => by rw [rvL_zero] at h; cases h
  | [], d + 1, pre, m, c, h, _, _ => by rw [rvL_nil] at h; cases h
  | x :: r, d + 1, pre, m, c, h, hp, hl => by
    rw [rvL_cons, ← val_snoc] at h
    have hx := hl x List.mem_cons_self
    by_cases h1 : x ≥ 128
    · rw [if_pos h1] at h
      have hr := rvL_range _ _ _ _ h
      have h2 := rv_back r d (pre ++ [x]) (m := m) (c := c) (by rw [List.length_append]; exact h) (fun b hb => by
        rcases List.mem_append.1 hb with hb | hb
        · exact hp b hb
        · obtain rfl := List.mem_singleton.1 hb; exact ⟨h1, hx⟩) (fun b hb => hl b (List.mem_cons_of_mem _ hb))
      rw [h2, List.append_assoc, List.length_append, List.length_singleton]
      congr 1
      rw [show c - pre.length = (c - (pre.length + 1)) + 1 by omega, List.take_succ_cons]; rfl
    · rw [if_neg h1] at h
      by_cases h2 : (x = 0 ∧ pre.length > 0) ∨ valB (pre ++ [x]) > 1000000000
      · rw [if_pos h2] at h; cases h
      · rw [if_neg h2] at h
        injection h with h
        injection h with h3 h4
        subst h3; subst h4
        unfold varN
        rw [canon1 pre hp (by omega) (by
          cases pre with
          | nil => exact .inl rfl
          | cons b q => exact .inr fun h0 => h2 (.inl ⟨h0, by simp⟩)), toNat_map, Nat.add_sub_cancel_left, List.take_succ_cons, List.take_zero]
theorem var_back {t : ByteArray} {a : Nat} (ha : a ≤ t.size) (h : (rvB t (a : Int)).2.2 = true) : (byt t).drop a = varN (rvB t (a : Int)).1.toNat ++ (byt t).drop (rvB t (a : Int)).2.1.toNat := by
  unfold rvB at h ⊢
  rw [if_pos (by omega), Int.toNat_natCast] at h
  rw [if_pos (by omega), Int.toNat_natCast]
  cases e : rvL ((byt t).drop a) 5 0 0 with
  | none => rw [e] at h; cases h
  | some z =>
    obtain ⟨m, c⟩ := z
    have h2 := rv_back ((byt t).drop a) 5 [] e (fun b hb => by cases hb) (fun b hb => byt_lt t b (List.mem_of_mem_drop hb))
    show (byt t).drop a = varN ((m : Int)).toNat ++ (byt t).drop ((a : Int) + (c : Int)).toNat
    rw [Int.toNat_natCast, h2, show ((a : Int) + (c : Int)).toNat = a + c by omega, ← List.drop_drop]
    exact (List.take_append_drop c ((byt t).drop a)).symm

end Go.Proofs.Yteideicglgpfiaa.Pu

/- The reference's draws of records, of their bytes, and of bytes that are spoilt. -/
namespace Go.Proofs.Yteideicglgpfiaa.Pu
set_option linter.unusedVariables false
set_option linter.unusedSimpArgs false
open Go.RowKit Go.Proofs.Yteideicglgpfiaa.PK Go.Proofs.YteideicglgpfiaaW.PrintWords

theorem pick_eq (b : List Int) (i h : Int) (l : List Int) (h0 : 0 ≤ i) (h1 : i ≤ b.length) (hb : b.length ≤ 9223372036854775807) (hl : 1 ≤ l.length) : ∃ v i' h', spec_l01PickInt.f b i h l = some (v, i', h') ∧ v ∈ l ∧ 0 ≤ i' ∧ i' ≤ b.length := by
  obtain ⟨v, j, g, e, ⟨v0, v1⟩, a1, b1⟩ := below_eq b i h (l.length : Int) h0 h1 hb (by omega)
  unfold spec_l01PickInt.f
  rw [e, Option.bind_some, if_pos v0, if_pos v1]
  exact ⟨_, _, _, rfl, getD_mem' (by omega), a1, b1⟩
theorem once_eq (b : List Int) (i h n : Int) (h0 : 0 ≤ i) (h1 : i ≤ b.length) (hb : b.length ≤ 9223372036854775807) (hn : 0 < n) : ∃ v i' h', spec_l01Once.f b i h n = some (v, i', h') ∧ 0 ≤ i' ∧ i' ≤ b.length := by
  obtain ⟨v, j, g, e, _, a1, b1⟩ := below_eq b i h n h0 h1 hb hn
  unfold spec_l01Once.f
  rw [e, Option.bind_some]
  exact ⟨_, _, _, rfl, a1, b1⟩
theorem rec_draw (b : List Int) (i h : Int) (h0 : 0 ≤ i) (h1 : i ≤ b.length) (hb : b.length ≤ 9223372036854775807) : ∃ t v a c i' h', spec_l09Rec.f b i h = some (t, v, a, c, i', h') ∧ (recOk t v a c = true ∧ a ≤ 15 ∧ c ≤ 9) ∧ 0 ≤ i' ∧ i' ≤ b.length := by
  unfold spec_l09Rec.f
  obtain ⟨t, i1, g1, e1, t1, a1, b1⟩ := pick_eq b i h [2, 2, 3, 4, 4, 4, 4, 4, 5] h0 h1 hb (by decide)
  obtain ⟨v, i2, g2, e2, ⟨v0, v1⟩, a2, b2⟩ := below_eq b i1 g1 3 a1 b1 hb (by omega)
  rw [e1, Option.bind_some]
  simp only
  rw [e2, Option.bind_some]
  simp only
  have ht : t = 2 ∨ t = 3 ∨ t = 4 ∨ t = 5 := by simp at t1; omega
  rw [w64 (x := 1 + v) (by omega) (by omega)]
  by_cases k2 : t = 2
  · obtain ⟨x, i3, g3, e3, x1, a3, b3⟩ := pick_eq b i2 g2 [0, 0, 1, 2] a2 b2 hb (by decide)
    have hx : x = 0 ∨ x = 1 ∨ x = 2 := by simp at x1; omega
    rw [if_pos k2, e3]
    exact ⟨_, _, _, _, _, _, rfl, ⟨by unfold recOk; rw [decide_eq_true_eq]; omega, by omega, by omega⟩, a3, b3⟩
  · rw [if_neg k2]
    by_cases k4 : t = 4
    · obtain ⟨x, i3, g3, e3, ⟨x0, x1⟩, a3, b3⟩ := below_eq b i2 g2 16 a2 b2 hb (by omega)
      obtain ⟨y, i4, g4, e4, ⟨y0, y1⟩, a4, b4⟩ := below_eq b i3 g3 9 a3 b3 hb (by omega)
      rw [if_pos k4, e3, Option.bind_some]
      simp only
      rw [e4, Option.bind_some]
      simp only
      rw [w64 (x := 1 + y) (by omega) (by omega)]
      exact ⟨_, _, _, _, _, _, rfl, ⟨by unfold recOk; rw [decide_eq_true_eq]; omega, by omega, by omega⟩, a4, b4⟩
    · rw [if_neg k4]
      by_cases k5 : t = 5
      · obtain ⟨x, i3, g3, e3, ⟨x0, x1⟩, a3, b3⟩ := below_eq b i2 g2 16 a2 b2 hb (by omega)
        rw [if_pos k5, e3]
        exact ⟨_, _, _, _, _, _, rfl, ⟨by unfold recOk; rw [decide_eq_true_eq]; omega, by omega, by omega⟩, a3, b3⟩
      · rw [if_neg k5]
        exact ⟨_, _, _, _, _, _, rfl, ⟨by unfold recOk; rw [decide_eq_true_eq]; omega, by omega, by omega⟩, a2, b2⟩
end Go.Proofs.Yteideicglgpfiaa.Pu

/- A drawn store is right; so is it with a drawn record. -/
namespace Go.Proofs.Yteideicglgpfiaa.M2.Mp
set_option linter.unusedVariables false
set_option linter.unusedSimpArgs false
open Go.RowKit Go.Proofs.Yteideicglgpfiaa.PK Go.Proofs.YteideicglgpfiaaW.PrintWords Go.Proofs.Yteideicglgpfiaa.Pu

theorem onceC {b : List Int} (hb : Cb b) (n : Int) (c : List Int) (i h : Int) (hn : 0 < n) (hc : c = b ∧ Cur b i) : EvX (fun k => spec_l01Once.f k n c i h) (fun t => t.2.1 = b ∧ Cur b t.2.2.1) := by
  obtain ⟨rfl, hc⟩ := hc
  exact onceX n c i h hn hc hb
theorem belowC {b : List Int} (hb : Cb b) (n : Int) (c : List Int) (i h : Int) (hn : 0 < n) (hc : c = b ∧ Cur b i) : EvX (fun k => spec_l01Below.f k n c i h) (fun t => (0 ≤ t.1 ∧ t.1 < n) ∧ (t.2.1 = b ∧ Cur b t.2.2.1)) := by
  obtain ⟨rfl, hc⟩ := hc
  exact belowX n c i h hn hc hb
theorem recC {b : List Int} (hb : Cb b) (c : List Int) (i h : Int) (hc : c = b ∧ Cur b i) : EvX (fun k => spec_l09Rec.f k c i h) (fun t => t.2.2.2.2.1 = b ∧ Cur b t.2.2.2.2.2.1) := by
  obtain ⟨rfl, hc⟩ := hc
  obtain ⟨t, v, a, cc, i', h', e, _, h1⟩ := rec_draw c i h hc.1 hc.2 hb
  exact ⟨_, ev_all_k (fun m => spec_l09Rec.rel 0 c i h _ e m (Nat.zero_le _)), rfl, h1⟩
theorem right_sz {v : List S53} {a : List S88} {n : Int} (h : storeB v a n = true) : v.length ≤ 3 ∧ Sz a := ⟨(right_iff.1 h).1.1, woods_le (right_iff.1 h).1.2.1⟩
theorem entC {v : List S53} {a : List S88} {n : Int} (h : storeB v a n = true) (ha : a.length ≤ 1000) (t w s c : Int) : EvX (fun k => spec_Enter.f k n t w s c v a) (fun r => storeB r.1 r.2.1 r.2.2.1 = true ∧ r.2.1.length ≤ a.length + 2) := by
  refine evx_mono (enterX v a n t w s c (by have := (right_sz h).1; omega) (by omega) (right_sz h).2) fun r hr => ?_
  subst hr
  unfold entR
  cases e : enterB v a n t w s c with
  | none => exact ⟨h, by show a.length ≤ _; omega⟩
  | some q => exact enter_right (v' := q.1) (a' := q.2.1) (n' := q.2.2) e
theorem storeX {b : List Int} (hb : Cb b) (c : List Int) (i h : Int) (hc : c = b ∧ Cur b i) : EvX (fun k => spec_l12Store.f k c i h) (fun r => (storeB r.1 r.2.1 r.2.2.1 = true ∧ r.2.1.length ≤ 28) ∧ (r.2.2.2.1 = b ∧ Cur b r.2.2.2.2.1)) := by
  have main : ∀ (d i : Nat), i + d = 14 → ∀ (c : List Int) (j g : Int) (p1 : List S53) (p2 : List S88) (p3 : Int) (v : List S53) (a : List S88) (n : Int), (c = b ∧ Cur b j) → storeB v a n = true → a.length ≤ 2 * i →
      EvX (fun k => spec_l12Store.c3 k (i : Int) c j g p1 p2 p3 v a n) (fun r => (storeB r.1 r.2.1 r.2.2.1 = true ∧ r.2.1.length ≤ 28) ∧ (r.2.2.2.1 = b ∧ Cur b r.2.2.2.2.1)) := by
    intro d
    induction d with
    | zero =>
      intro i hi c j g p1 p2 p3 v a n hc hR hA
      refine evx_step (fun k => by rw [spec_l12Store.c3]) (evx_bind (belowC hb 14 c j g (by omega) hc) fun t ht => ?_)
      have h1 := ht.1
      have h2 := ht.2
      exact evx_neg (by omega) (evx_some ⟨⟨hR, by show a.length ≤ 28; omega⟩, h2⟩)
    | succ d ih =>
      intro i hi c j g p1 p2 p3 v a n hc hR hA
      have ih2 := ih (i + 1) (by omega)
      rw [← m64 (i := i) (n := 14) (by omega) (by omega)] at ih2
      have hA2 : a.length ≤ 1000 := by omega
      refine evx_step (fun k => by rw [spec_l12Store.c3]) (evx_bind (belowC hb 14 c j g (by omega) hc) fun t ht => ?_)
      have h1 := ht.1
      have h2 := ht.2
      clear ht
      refine evx_ite (fun hlt => ?_) (fun _ => evx_some ⟨⟨hR, by show a.length ≤ 28; omega⟩, h2⟩)
      refine evx_bind (recC hb _ _ _ h2) fun t3 h3 => ?_
      repeat' first
        | exact evx_bind (entC hR hA2 _ _ _ _) (fun r hr => ih2 _ _ _ _ _ _ _ _ _ (by assumption) hr.1 (by have := hr.2; omega))
        | refine evx_bind (onceC hb _ _ _ _ (by omega) (by assumption)) (fun t ht => ?_)
        | refine evx_bind (belowC hb _ _ _ _ (by omega) (by assumption)) (fun t ⟨ht1, ht2⟩ => ?_)
        | refine evx_pos (by omega) ?_
        | refine evx_neg (by omega) ?_
        | refine evx_ite (fun hif => ?_) (fun hif => ?_)
  simp only [spec_l12Store.f, spec_StoreNew.f]
  exact main 14 0 (by omega) c i h [] [] 0 [] [] 1 hc (right_iff.2 ⟨⟨Nat.zero_le _, rfl, by omega, List.Pairwise.nil, fun x hx => by cases hx⟩, fun j hj => absurd hj (Nat.not_lt_zero _)⟩) (Nat.zero_le _)
theorem storeRecX (b : List Int) (hb : Cb b) : EvX (fun k => spec_DrawStoreRec.f k b) (fun r => storeB r.1 r.2.1 r.2.2.1 = true ∧ r.2.1.length ≤ 28) := by
  simp only [spec_DrawStoreRec.f]
  refine evx_bind (newX b hb) fun t1 h1 => ?_
  refine evx_bind (storeX hb _ _ _ h1) fun t2 ⟨hR, h2⟩ => ?_
  refine evx_bind (recC hb _ _ _ h2) fun t3 h3 => ?_
  repeat' first
    | exact evx_some hR
    | refine evx_bind (onceC hb _ _ _ _ (by omega) (by assumption)) (fun t ht => ?_)
    | refine evx_bind (belowC hb _ _ _ _ (by omega) (by assumption)) (fun t ⟨ht1, ht2⟩ => ?_)
    | refine evx_pos (by omega) ?_
    | refine evx_neg (by omega) ?_
    | refine evx_ite (fun hif => ?_) (fun hif => ?_)
end Go.Proofs.Yteideicglgpfiaa.M2.Mp

/- How many sectors have a chunk, as one number; the program's and the reference's RefsOf tell it. -/
namespace Go.Proofs.Yteideicglgpfiaa.Pu
set_option linter.unusedVariables false
set_option linter.unusedSimpArgs false
open Go.RowKit Go.Proofs.Yteideicglgpfiaa.PK Go.Proofs.YteideicglgpfiaaW.PrintWords

def cnt (c : Int) (l : List Int) : Nat := (l.filter fun x => decide (x = c)).length
theorem cnt_le (c : Int) (l : List Int) : cnt c l ≤ l.length := List.length_filter_le _ _
theorem cnt_append (c : Int) (l m : List Int) : cnt c (l ++ m) = cnt c l + cnt c m := by unfold cnt; rw [List.filter_append, List.length_append]
theorem cnt_cons (c x : Int) (l : List Int) : cnt c (x :: l) = (if x = c then 1 else 0) + cnt c l := by
  unfold cnt
  by_cases h : x = c <;> simp [List.filter_cons, h] <;> omega
/-- The chunks of all sectors that have one, volume by volume. -/
def posL (l : List Int) : List Int := l.filter fun x => decide (x > 0)
def chunksB (v : List S53) (a : List S88) : List Int := v.flatMap fun x => posL (allB a x.f1)
def refsB (v : List S53) (a : List S88) (c : Int) : Nat := cnt c (chunksB v a)
theorem posL_len (l : List Int) : (posL l).length ≤ l.length := List.length_filter_le _ _
theorem cnt_pos {c : Int} (hc : c > 0) (l : List Int) : cnt c (posL l) = cnt c l := by
  unfold cnt posL
  rw [List.filter_filter]
  congr 1
  apply List.filter_congr
  intro x _
  by_cases h : x = c
  · subst h; simp [hc]
  · simp [h]
theorem cnt_neg {c : Int} (hc : ¬ c > 0) (l : List Int) : cnt c (posL l) = 0 := by
  unfold cnt posL
  rw [List.filter_filter, List.length_eq_zero_iff, List.filter_eq_nil_iff]
  intro x _
  simp
  omega
theorem chunks_neg {c : Int} (hc : ¬ c > 0) (a : List S88) : ∀ v : List S53, refsB v a c = 0
  | [] => rfl
  | x :: v => by
    have ih := chunks_neg hc a v
    unfold refsB chunksB at *
    rw [List.flatMap_cons, cnt_append, ih, cnt_neg hc]
/-- All sectors' chunks, gathered. -/
theorem iChunks_ev (v : List S53) (a : List S88) (n : Int) (hv : v.length ≤ 1048576) (ha : a.length ≤ 9223372036854775807) : Ev (fun k => impl_chunksOf.f k v a n) (chunksB v a) := by
  have main : ∀ (d i : Nat) (acc : List Int), i + d = v.length → acc.length ≤ 16 * i → Ev (fun k => impl_chunksOf.l0 k acc v (v.length : Int) (i : Int) v a n) (acc ++ chunksB (v.drop i) a) := by
    intro d
    induction d with
    | zero =>
      intro i acc hi hl
      refine ev_some fun k => ?_
      simp only [impl_chunksOf.l0]
      rw [if_neg (by omega), List.drop_eq_nil_of_le (by omega)]
      simp [chunksB]
    | succ d ih =>
      intro i acc hi hl
      have hil : i < v.length := by omega
      have inner : ∀ (e j : Nat) (ac : List Int), j + e = 16 → ac.length ≤ 16 * i + j → ac ++ posL ((allB a (v.getD i z53).f1).drop j) = acc ++ posL (allB a (v.getD i z53).f1) → Ev (fun k => impl_chunksOf.l1 k ac v (v.length : Int) (i : Int) (allB a (v.getD i z53).f1) 16 (j : Int) v a n) (acc ++ chunksB (v.drop i) a) := by
        intro e
        induction e with
        | zero =>
          intro j ac hj hac he
          rw [List.drop_eq_nil_of_le (by rw [allB_len]; omega)] at he
          have h := ih (i + 1) ac (by omega) (by omega)
          rw [show ac = acc ++ posL (allB a (v.getD i z53).f1) by simpa [posL] using he, List.append_assoc] at h
          rw [drop_get z53 hil]
          refine Ev.step (fun k => ?_) h
          simp only [impl_chunksOf.l1]
          rw [if_neg (by omega), wsucc (n := v.length) hil (by omega), show ac = acc ++ posL (allB a (v.getD i z53).f1) by simpa [posL] using he]
        | succ e ihe =>
          intro j ac hj hac he
          have hj2 : j < (allB a (v.getD i z53).f1).length := by rw [allB_len]; omega
          rw [drop_get 0 hj2] at he
          have st : ∀ k, impl_chunksOf.l1 (k + 1) ac v (v.length : Int) (i : Int) (allB a (v.getD i z53).f1) 16 (j : Int) v a n = impl_chunksOf.l1 k (if (allB a (v.getD i z53).f1).getD j 0 > 0 then ac ++ [(allB a (v.getD i z53).f1).getD j 0] else ac) v (v.length : Int) (i : Int) (allB a (v.getD i z53).f1) 16 ((j + 1 : Nat) : Int) v a n := fun k => by
            simp only [impl_chunksOf.l1]
            rw [if_pos (by omega), if_pos (by omega), if_pos (by omega), rd_nat, wsucc (n := 16) (by omega) (by omega)]
            by_cases h : (allB a (v.getD i z53).f1).getD j 0 > 0
            · rw [if_pos h, if_pos h, if_pos (by omega)]
            · rw [if_neg h, if_neg h]
          refine Ev.step st ?_
          by_cases h : (allB a (v.getD i z53).f1).getD j 0 > 0
          · rw [if_pos h]
            refine ihe (j + 1) _ (by omega) (by simp; omega) ?_
            rw [← he]
            show _ = ac ++ List.filter _ (_ :: _)
            rw [List.filter_cons, if_pos (decide_eq_true h), List.append_assoc]; rfl
          · rw [if_neg h]
            refine ihe (j + 1) _ (by omega) (by omega) ?_
            rw [← he]
            show _ = ac ++ List.filter _ (_ :: _)
            rw [List.filter_cons, if_neg (by simpa using h)]; rfl
      refine Ev.step (f := fun k => (impl_AllAt.f k a (v.getD i z53).f1).bind fun t => impl_chunksOf.l1 k acc v (v.length : Int) (i : Int) t (t.length : Int) 0 v a n) (fun k => ?_) (ev_bind (iAllAt_ev a _ ha) ?_)
      · simp only [impl_chunksOf.l0]
        rw [if_pos (by omega), if_pos (by omega), if_pos (by omega), rdIV_nat]
      · have h := inner 16 0 acc rfl (by omega) (by rw [List.drop_zero])
        simp only [allB_len]
        exact h
  have h := main v.length 0 [] (by omega) (by simp)
  rw [List.nil_append, List.drop_zero] at h
  exact h
theorem chunksB_len (a : List S88) : ∀ v : List S53, (chunksB v a).length ≤ 16 * v.length
  | [] => by simp [chunksB]
  | x :: v => by
    have ih := chunksB_len a v
    have h := posL_len (allB a x.f1)
    rw [allB_len] at h
    unfold chunksB at *
    rw [List.flatMap_cons, List.length_append, List.length_cons]
    omega
theorem iCount_ev (c : Int) (l : List Int) (hl : l.length ≤ 16777216) : ∀ (d i : Nat) (s : Nat), i + d = l.length → s ≤ i → Ev (fun k => impl_RefsOf.l0 k c (s : Int) l (l.length : Int) (i : Int)) ((s + cnt c (l.drop i) : Nat) : Int) := by
  intro d
  induction d with
  | zero =>
    intro i s hi hs
    refine ev_some fun k => ?_
    simp only [impl_RefsOf.l0]
    rw [if_neg (by omega), List.drop_eq_nil_of_le (by omega)]
    rfl
  | succ d ih =>
    intro i s hi hs
    have hil : i < l.length := by omega
    rw [drop_get 0 hil, cnt_cons]
    by_cases h : l.getD i 0 = c
    · have := ih (i + 1) (s + 1) (by omega) (by omega)
      rw [if_pos h, show s + (1 + cnt c (l.drop (i + 1))) = s + 1 + cnt c (l.drop (i + 1)) by omega]
      refine Ev.step (fun k => ?_) this
      simp only [impl_RefsOf.l0]
      rw [if_pos (by omega), if_pos (by omega), if_pos (by omega), rd_nat, if_pos h, wsucc (n := l.length) hil (by omega), w64 (by omega) (by omega)]
      rfl
    · have := ih (i + 1) s (by omega) (by omega)
      rw [if_neg h, Nat.zero_add]
      refine Ev.step (fun k => ?_) this
      simp only [impl_RefsOf.l0]
      rw [if_pos (by omega), if_pos (by omega), if_pos (by omega), rd_nat, if_neg h, wsucc (n := l.length) hil (by omega)]
theorem iRefs_ev (v : List S53) (a : List S88) (n c : Int) (hv : v.length ≤ 1048576) (ha : a.length ≤ 9223372036854775807) : Ev (fun k => impl_RefsOf.f k v a n c) (refsB v a c : Int) := by
  unfold impl_RefsOf.f refsB
  refine ev_bind (iChunks_ev v a n hv ha) ?_
  have hl := chunksB_len a v
  have h := iCount_ev c (chunksB v a) (by omega) (chunksB v a).length 0 0 (by omega) (by omega)
  rw [List.drop_zero, Nat.zero_add] at h
  exact h
theorem sRefs_ev (v : List S53) (a : List S88) (n c : Int) (hv : v.length ≤ 1048576) (ha : a.length ≤ 9223372036854775807) : Ev (fun k => spec_RefsOf.f k v a n c) (refsB v a c : Int) := by
  by_cases hc : c > 0
  · have main : ∀ (d i s : Nat), i + d = v.length → s ≤ 16 * i → Ev (fun k => spec_RefsOf.l0 k c (s : Int) (i : Int) v a n) ((s + refsB (v.drop i) a c : Nat) : Int) := by
      intro d
      induction d with
      | zero =>
        intro i s hi hs
        refine Ev.step (f := fun k => spec_RefsOf.j1 k c (s : Int) (i : Int) false v a n) (fun k => ?_) (ev_some fun k => ?_)
        · simp only [spec_RefsOf.l0]
          rw [if_neg (by omega)]
        · simp only [spec_RefsOf.j1]
          rw [if_neg (by decide), List.drop_eq_nil_of_le (by omega)]
          rfl
      | succ d ih =>
        intro i s hi hs
        have hil : i < v.length := by omega
        have inner : ∀ (e j t : Nat), j + e = 16 → t ≤ 16 * i + j → Ev (fun k => spec_RefsOf.l1 k c (t : Int) (i : Int) (allB a (v.getD i z53).f1) (j : Int) v a n) ((t + cnt c ((allB a (v.getD i z53).f1).drop j) + refsB (v.drop (i + 1)) a c : Nat) : Int) := by
          intro e
          induction e with
          | zero =>
            intro j t hj ht
            rw [List.drop_eq_nil_of_le (by rw [allB_len]; omega)]
            refine Ev.step (fun k => ?_) (ih (i + 1) t (by omega) (by omega))
            simp only [spec_RefsOf.l1]
            rw [if_neg (by rw [allB_len]; omega), wsucc (n := v.length) hil (by omega)]
          | succ e ihe =>
            intro j t hj ht
            have hlen := allB_len a (v.getD i z53).f1
            have hj2 : j < (allB a (v.getD i z53).f1).length := by omega
            rw [drop_get 0 hj2, cnt_cons]
            by_cases h : (allB a (v.getD i z53).f1).getD j 0 = c
            · have := ihe (j + 1) (t + 1) (by omega) (by omega)
              rw [if_pos h, show t + (1 + cnt c ((allB a (v.getD i z53).f1).drop (j + 1))) = t + 1 + cnt c ((allB a (v.getD i z53).f1).drop (j + 1)) by omega]
              refine Ev.step (fun k => ?_) this
              simp only [spec_RefsOf.l1]
              rw [if_pos (by omega), if_pos (by omega), rd_nat, if_pos h, wsucc (i := j) (n := 16) (by omega) (by omega), w64 (by omega) (by omega)]
              rfl
            · have := ihe (j + 1) t (by omega) (by omega)
              rw [if_neg h, Nat.zero_add]
              refine Ev.step (fun k => ?_) this
              simp only [spec_RefsOf.l1]
              rw [if_pos (by omega), if_pos (by omega), rd_nat, if_neg h, wsucc (n := 16) (by omega) (by omega)]
        have e1 : s + refsB (v.drop i) a c = s + cnt c ((allB a (v.getD i z53).f1).drop 0) + refsB (v.drop (i + 1)) a c := by
          rw [drop_get z53 hil, List.drop_zero]
          unfold refsB chunksB
          rw [List.flatMap_cons, cnt_append, cnt_pos hc]
          omega
        rw [e1]
        refine Ev.step (f := fun k => spec_RefsOf.j1 k c (s : Int) (i : Int) true v a n) (fun k => ?_) (Ev.step (f := fun k => (spec_AllAt.f k a (v.getD i z53).f1).bind fun t => spec_RefsOf.l1 k c (s : Int) (i : Int) t 0 v a n) (fun k => ?_) (ev_bind (sAllAt_ev a _ ha) (inner 16 0 s rfl (by omega))))
        · simp only [spec_RefsOf.l0]
          rw [if_pos (by omega), decide_eq_true hc]
        · simp only [spec_RefsOf.j1]
          rw [if_pos trivial, if_pos (by omega), if_pos (by omega), rdIV_nat]
    have h := main v.length 0 0 (by omega) (by omega)
    rw [List.drop_zero, Nat.zero_add] at h
    exact h
  · rw [chunks_neg hc a v]
    by_cases hv0 : 0 < v.length
    · refine Ev.step (f := fun k => spec_RefsOf.j1 k c 0 0 false v a n) (fun k => ?_) (ev_some fun k => by simp only [spec_RefsOf.j1]; rw [if_neg (by decide)]; rfl)
      show spec_RefsOf.l0 (k + 1) c 0 0 v a n = _
      simp only [spec_RefsOf.l0]
      rw [if_pos (by omega), decide_eq_false hc]
    · refine Ev.step (f := fun k => spec_RefsOf.j1 k c 0 0 false v a n) (fun k => ?_) (ev_some fun k => by simp only [spec_RefsOf.j1]; rw [if_neg (by decide)]; rfl)
      show spec_RefsOf.l0 (k + 1) c 0 0 v a n = _
      simp only [spec_RefsOf.l0]
      rw [if_neg (by omega)]
end Go.Proofs.Yteideicglgpfiaa.Pu

/- Ascending lists of numbers. -/
namespace Go.Proofs.Yteideicglgpfiaa.Pu
set_option linter.unusedVariables false
set_option linter.unusedSimpArgs false
open Go.RowKit Go.Proofs.Yteideicglgpfiaa.PK Go.Proofs.YteideicglgpfiaaW.PrintWords

def sortB (l : List Int) : List Int := l.mergeSort fun x y => decide (x ≤ y)
/-- A number put into an ascending list. -/
def insB (s : List Int) (x : Int) : List Int := (s.filter fun y => decide (y < x)) ++ [x] ++ s.filter fun y => decide (y > x)
def Asc (l : List Int) : Prop := l.Pairwise (· < ·)
theorem ins_asc {s : List Int} (x : Int) (h : Asc s) : Asc (insB s x) := by
  unfold Asc insB
  rw [List.append_assoc, List.pairwise_append]
  refine ⟨List.Pairwise.filter _ h, ?_, ?_⟩
  · rw [List.singleton_append, List.pairwise_cons]
    exact ⟨fun y hy => by have := (List.mem_filter.1 hy).2; simpa using this, List.Pairwise.filter _ h⟩
  · intro a ha b hb
    have h1 : a < x := by have := (List.mem_filter.1 ha).2; simpa using this
    rcases List.mem_cons.1 hb with rfl | hb
    · exact h1
    · have h2 : b > x := by have := (List.mem_filter.1 hb).2; simpa using this
      omega
theorem ins_mem {s : List Int} {x y : Int} : y ∈ insB s x ↔ y ∈ s ∨ y = x := by
  unfold insB
  simp only [List.mem_append, List.mem_filter, List.mem_singleton, decide_eq_true_eq]
  constructor
  · rintro ((⟨h, _⟩ | h) | ⟨h, _⟩)
    · exact .inl h
    · exact .inr h
    · exact .inl h
  · rintro (h | h)
    · rcases Int.lt_trichotomy y x with h2 | h2 | h2
      · exact .inl (.inl ⟨h, h2⟩)
      · exact .inl (.inr h2)
      · exact .inr ⟨h, h2⟩
    · exact .inl (.inr h)
theorem ins_len {s : List Int} (x : Int) : (insB s x).length ≤ s.length * 2 + 1 := by
  unfold insB
  have h1 := List.length_filter_le (fun y => decide (y < x)) s
  have h2 := List.length_filter_le (fun y => decide (y > x)) s
  simp only [List.length_append, List.length_singleton]
  omega
theorem asc_len : ∀ {s : List Int} {m : List Int}, Asc s → (∀ y ∈ s, y ∈ m) → s.length ≤ m.length
  | [], _, _, _ => Nat.zero_le _
  | x :: s, m, h, hm => by
    obtain ⟨h1, h2⟩ := List.pairwise_cons.1 h
    have hx := hm x List.mem_cons_self
    have := asc_len (s := s) (m := m.erase x) h2 fun y hy => (List.mem_erase_of_ne (by have := h1 y hy; omega)).2 (hm y (List.mem_cons_of_mem _ hy))
    rw [List.length_erase_of_mem hx] at this
    have hp := List.length_pos_of_mem hx
    simp only [List.length_cons]
    omega
/-- Ascending lists of the same numbers are one. -/
theorem asc_eq : ∀ {s t : List Int}, Asc s → Asc t → (∀ y, y ∈ s ↔ y ∈ t) → s = t
  | [], [], _, _, _ => rfl
  | [], y :: t, _, _, h => by have := (h y).2 List.mem_cons_self; cases this
  | x :: s, [], _, _, h => by have := (h x).1 List.mem_cons_self; cases this
  | x :: s, y :: t, hs, ht, h => by
    obtain ⟨s1, s2⟩ := List.pairwise_cons.1 hs
    obtain ⟨t1, t2⟩ := List.pairwise_cons.1 ht
    have e : x = y := by
      have h1 := (h x).1 List.mem_cons_self
      have h2 := (h y).2 List.mem_cons_self
      rcases List.mem_cons.1 h1 with h1 | h1
      · exact h1
      · rcases List.mem_cons.1 h2 with h2 | h2
        · exact h2.symm
        · have := t1 x h1; have := s1 y h2; omega
    subst e
    rw [asc_eq s2 t2 fun z => by
      constructor
      · intro hz
        rcases List.mem_cons.1 ((h z).1 (List.mem_cons_of_mem _ hz)) with rfl | h3
        · have := s1 z hz; omega
        · exact h3
      · intro hz
        rcases List.mem_cons.1 ((h z).2 (List.mem_cons_of_mem _ hz)) with rfl | h3
        · have := t1 z hz; omega
        · exact h3]
theorem sort_asc {l : List Int} (h : l.Nodup) : Asc (sortB l) := by
  have hs : (sortB l).Pairwise fun a b => decide (a ≤ b) = true := List.pairwise_mergeSort (le := fun x y : Int => decide (x ≤ y)) (fun a b c h1 h2 => by simp at *; omega) (fun a b => by simp; omega) l
  have hn : (sortB l).Nodup := (List.mergeSort_perm l _).nodup_iff.2 h
  unfold Asc
  refine (List.Pairwise.and hs hn).imp fun ⟨h1, h2⟩ => ?_
  have h1 : _ ≤ _ := of_decide_eq_true h1
  have h2 : _ ≠ _ := h2
  omega
end Go.Proofs.Yteideicglgpfiaa.Pu

/- The chunks that sectors have, ascending, each once; the program's and the reference's LiveOf tell them. -/
namespace Go.Proofs.Yteideicglgpfiaa.Pu
set_option linter.unusedVariables false
set_option linter.unusedSimpArgs false
open Go.RowKit Go.Proofs.Yteideicglgpfiaa.PK Go.Proofs.YteideicglgpfiaaW.PrintWords

/-- What stands behind the number p in a list that ascends, each number once. -/
def dedA : Int → List Int → List Int
  | _, [] => []
  | p, x :: l => if p = x then dedA x l else x :: dedA x l
def dedB : List Int → List Int
  | [] => []
  | x :: l => x :: dedA x l
theorem ded_mem : ∀ (l : List Int) (p y : Int), y ∈ p :: dedA p l ↔ y ∈ p :: l
  | [], p, y => Iff.rfl
  | x :: l, p, y => by
    have ih := ded_mem l x y
    unfold dedA
    by_cases h : p = x
    · subst h
      rw [if_pos rfl, ih]
      constructor
      · exact fun h => List.mem_cons_of_mem _ h
      · intro h
        rcases List.mem_cons.1 h with rfl | h
        · exact List.mem_cons_self
        · exact h
    · rw [if_neg h, List.mem_cons, ih, List.mem_cons (a := y) (b := p)]
theorem ded_asc : ∀ (l : List Int) (p : Int), (p :: l).Pairwise (fun a b => a ≤ b) → Asc (p :: dedA p l)
  | [], p, _ => List.pairwise_singleton _ _
  | x :: l, p, h => by
    obtain ⟨h1, h2⟩ := List.pairwise_cons.1 h
    have ih := ded_asc l x h2
    unfold dedA
    by_cases hx : p = x
    · subst hx; rw [if_pos rfl]; exact ih
    · rw [if_neg hx]
      refine List.pairwise_cons.2 ⟨fun y hy => ?_, ih⟩
      have h3 := h1 x List.mem_cons_self
      rcases List.mem_cons.1 hy with rfl | hy
      · omega
      · have := (List.pairwise_cons.1 ih).1 y hy
        omega
theorem dedB_mem (l : List Int) (y : Int) : y ∈ dedB l ↔ y ∈ l := by
  cases l with
  | nil => exact Iff.rfl
  | cons x l => exact ded_mem l x y
theorem dedB_asc (l : List Int) : Asc (dedB (sortB l)) := by
  have hs : (sortB l).Pairwise fun a b => a ≤ b := (List.pairwise_mergeSort (le := fun x y : Int => decide (x ≤ y)) (fun a b c h1 h2 => by simp at *; omega) (fun a b => by simp; omega) l).imp fun h => of_decide_eq_true h
  cases h : sortB l with
  | nil => exact List.Pairwise.nil
  | cons x m => rw [h] at hs; exact ded_asc m x hs
theorem sortB_mem (l : List Int) (y : Int) : y ∈ sortB l ↔ y ∈ l := (List.mergeSort_perm l _).mem_iff
theorem sortB_len (l : List Int) : (sortB l).length = l.length := List.length_mergeSort l
/-- The chunks that sectors have. -/
def liveB (v : List S53) (a : List S88) : List Int := dedB (sortB (chunksB v a))
theorem live_mem (v : List S53) (a : List S88) (y : Int) : y ∈ liveB v a ↔ y ∈ chunksB v a := by unfold liveB; rw [dedB_mem, sortB_mem]
theorem live_asc (v : List S53) (a : List S88) : Asc (liveB v a) := dedB_asc _
theorem live_len (v : List S53) (a : List S88) : (liveB v a).length ≤ 16 * v.length := by
  have h1 := asc_len (live_asc v a) (m := chunksB v a) (fun y h => (live_mem v a y).1 h)
  have h2 := chunksB_len a v
  omega
/-- The program's LiveOf. -/
theorem iLive_ev (v : List S53) (a : List S88) (n : Int) (hv : v.length ≤ 1048576) (ha : a.length ≤ 9223372036854775807) : Ev (fun k => impl_LiveOf.f k v a n) (liveB v a) := by
  have hl := chunksB_len a v
  unfold impl_LiveOf.f liveB
  refine ev_bind (iChunks_ev v a n hv ha) (ev_bind (g := fun k => sort_Ints.f k (chunksB v a)) (a := sortB (chunksB v a)) (ev_const (if_pos (by omega))) ?_)
  have hs := sortB_len (chunksB v a)
  rw [← hs]
  generalize sortB (chunksB v a) = s at hs ⊢
  have main : ∀ (d i : Nat) (acc : List Int), i + 1 + d = s.length → acc.length ≤ i + 1 → Ev (fun k => impl_LiveOf.l0 k s acc s (s.length : Int) ((i + 1 : Nat) : Int)) (acc ++ dedA (s.getD i 0) (s.drop (i + 1))) := by
    intro d
    induction d with
    | zero =>
      intro i acc hi hc
      refine ev_some fun k => ?_
      simp only [impl_LiveOf.l0]
      rw [if_neg (by omega), List.drop_eq_nil_of_le (by omega)]
      simp [dedA]
    | succ d ih =>
      intro i acc hi hc
      have hil : i + 1 < s.length := by omega
      rw [drop_get 0 hil]
      unfold dedA
      have w1 : wrap64 (((i + 1 : Nat) : Int) - 1) = (i : Int) := by rw [show ((i + 1 : Nat) : Int) - 1 = (i : Int) by omega]; exact w64 (by omega) (by omega)
      by_cases h : s.getD i 0 = s.getD (i + 1) 0
      · rw [if_pos h]
        have := ih (i + 1) acc (by omega) (by omega)
        refine Ev.step (fun k => ?_) this
        simp only [impl_LiveOf.l0]
        rw [if_pos (by omega), if_pos (by omega), if_pos (by omega), if_neg (by omega), w1, if_pos (by omega), if_pos (by omega), rd_nat, rd_nat, if_pos h, wsucc (n := s.length) hil (by omega)]
      · rw [if_neg h]
        have := ih (i + 1) (acc ++ [s.getD (i + 1) 0]) (by omega) (by simp; omega)
        rw [List.append_assoc] at this
        refine Ev.step (fun k => ?_) this
        simp only [impl_LiveOf.l0]
        rw [if_pos (by omega), if_pos (by omega), if_pos (by omega), if_neg (by omega), w1, if_pos (by omega), if_pos (by omega), rd_nat, rd_nat, if_neg h, if_pos (by omega), wsucc (n := s.length) hil (by omega)]
  cases hm : s with
  | nil => exact ev_some fun k => by simp only [impl_LiveOf.l0]; rw [if_neg (by simp)]; rfl
  | cons x m =>
    have h := main m.length 0 [x] (by rw [hm]; simp; omega) (by simp)
    rw [hm] at h
    refine Ev.step (fun k => ?_) h
    simp only [impl_LiveOf.l0]
    rw [if_pos (by simp only [List.length_cons]; omega), if_pos (by omega), if_pos (by simp only [List.length_cons]; omega)]
    rw [if_pos trivial, if_pos (show ([] : List Int).length < 17592186044416 by decide), show wrap64 (0 + 1) = ((0 + 1 : Nat) : Int) from w64 (x := 0 + 1) (by omega) (by omega)]
    rfl
/-- The reference's: each chunk is put in. -/
theorem sIns_ev (l : List Int) (x : Int) (hl : l.length ≤ 1073741824) : Ev (fun k => spec_l12Insert.f k l x) ((l.filter fun y => decide (y < x)) ++ (if x > 0 then [x] else []) ++ l.filter fun y => decide (y > x)) := by
  have two : ∀ (b : List Int), b.length ≤ 1073741825 → ∀ (d j : Nat), j + d = l.length → Ev (fun k => spec_l12Insert.l1 k l x (b ++ (l.take j).filter fun y => decide (y > x)) (j : Int)) (b ++ l.filter fun y => decide (y > x)) := by
    intro b hb d
    induction d with
    | zero =>
      intro j hj
      rw [List.take_of_length_le (by omega)]
      exact ev_some fun k => by simp only [spec_l12Insert.l1]; rw [if_neg (by omega)]
    | succ d ih =>
      intro j hj
      have hjl : j < l.length := by omega
      have h := ih (j + 1) (by omega)
      have e : rd l (j : Int) = l[j] := by show l.getD j 0 = _; rw [List.getD_eq_getElem?_getD, List.getElem?_eq_getElem hjl]; rfl
      rw [List.take_succ_eq_append_getElem hjl, List.filter_append] at h
      have h2 := List.length_filter_le (fun y => decide (y > x)) (l.take j)
      have h3 : (l.take j).length ≤ l.length := by rw [List.length_take]; omega
      refine Ev.step (fun k => ?_) h
      simp only [spec_l12Insert.l1]
      rw [if_pos (by omega), if_pos (by omega), e, wsucc (n := l.length) hjl (by omega)]
      by_cases hg : l[j] > x
      · rw [if_pos hg, if_pos (by simp only [List.length_append]; omega), show [l[j]].filter (fun y => decide (y > x)) = [l[j]] by rw [List.filter_cons, if_pos (decide_eq_true hg)]; rfl, List.append_assoc]
      · rw [if_neg hg, show [l[j]].filter (fun y => decide (y > x)) = [] by rw [List.filter_cons, if_neg (by rw [decide_eq_false hg]; decide)]; rfl, List.append_nil]
  have one : ∀ (d j : Nat), j + d = l.length → Ev (fun k => spec_l12Insert.l0 k l x ((l.take j).filter fun y => decide (y < x)) (j : Int)) ((l.filter fun y => decide (y < x)) ++ (if x > 0 then [x] else []) ++ l.filter fun y => decide (y > x)) := by
    intro d
    induction d with
    | zero =>
      intro j hj
      rw [List.take_of_length_le (by omega)]
      have h1 := List.length_filter_le (fun y => decide (y < x)) l
      have t := two ((l.filter fun y => decide (y < x)) ++ (if x > 0 then [x] else [])) (by rw [List.length_append]; split <;> simp <;> omega) l.length 0 (by omega)
      rw [List.take_zero, List.filter_nil, List.append_nil] at t
      refine Ev.step (f := fun k => spec_l12Insert.j1 k l x ((l.filter fun y => decide (y < x)) ++ (if x > 0 then [x] else []))) (fun k => ?_) (Ev.step (fun k => ?_) t)
      · simp only [spec_l12Insert.l0]
        rw [if_neg (by omega)]
        by_cases hx : x > 0
        · rw [if_pos hx, if_pos (by omega), if_pos hx]
        · rw [if_neg hx, if_neg hx, List.append_nil]
      · simp only [spec_l12Insert.j1]; rfl
    | succ d ih =>
      intro j hj
      have hjl : j < l.length := by omega
      have h := ih (j + 1) (by omega)
      have e : rd l (j : Int) = l[j] := by show l.getD j 0 = _; rw [List.getD_eq_getElem?_getD, List.getElem?_eq_getElem hjl]; rfl
      rw [List.take_succ_eq_append_getElem hjl, List.filter_append] at h
      have h2 := List.length_filter_le (fun y => decide (y < x)) (l.take j)
      have h3 : (l.take j).length ≤ l.length := by rw [List.length_take]; omega
      refine Ev.step (fun k => ?_) h
      simp only [spec_l12Insert.l0]
      rw [if_pos (by omega), if_pos (by omega), e, wsucc (n := l.length) hjl (by omega)]
      by_cases hg : l[j] < x
      · rw [if_pos hg, if_pos (by omega), show [l[j]].filter (fun y => decide (y < x)) = [l[j]] by rw [List.filter_cons, if_pos (decide_eq_true hg)]; rfl]
      · rw [if_neg hg, show [l[j]].filter (fun y => decide (y < x)) = [] by rw [List.filter_cons, if_neg (by rw [decide_eq_false hg]; decide)]; rfl, List.append_nil]
  have h := one l.length 0 (by omega)
  rw [List.take_zero, List.filter_nil] at h
  exact h
def liveF (s : List Int) (x : Int) : List Int := if x > 0 then insB s x else s
theorem sIns2_ev (l : List Int) (x : Int) (hl : l.length ≤ 1073741824) (hp : ∀ y ∈ l, y > 0) : Ev (fun k => spec_l12Insert.f k l x) (liveF l x) := by
  have h := sIns_ev l x hl
  unfold liveF insB
  by_cases hx : x > 0
  · rw [if_pos hx] at h ⊢; exact h
  · rw [if_neg hx] at h ⊢
    rw [List.filter_eq_nil_iff.2 (fun y hy => by have := hp y hy; simp; omega), List.filter_eq_self.2 (fun y hy => by have := hp y hy; simp; omega)] at h
    exact h
/-- What has been put in so far: it ascends, its numbers are above 0 and of the list. -/
def LiveI (m s : List Int) : Prop := Asc s ∧ (∀ y ∈ s, y > 0) ∧ ∀ y ∈ s, y ∈ m
theorem liveF_I {m s : List Int} {x : Int} (h : LiveI m s) (hx : x ∈ m) : LiveI m (liveF s x) := by
  unfold liveF
  by_cases hp : x > 0
  · rw [if_pos hp]
    refine ⟨ins_asc x h.1, fun y hy => ?_, fun y hy => ?_⟩
    · rcases ins_mem.1 hy with hy | rfl
      · exact h.2.1 y hy
      · exact hp
    · rcases ins_mem.1 hy with hy | rfl
      · exact h.2.2 y hy
      · exact hx
  · rw [if_neg hp]; exact h
theorem liveF_mem : ∀ (l s : List Int) (y : Int), y ∈ l.foldl liveF s ↔ y ∈ s ∨ y ∈ l ∧ y > 0
  | [], s, y => by simp
  | x :: l, s, y => by
    rw [List.foldl_cons, liveF_mem l]
    unfold liveF
    by_cases hp : x > 0
    · rw [if_pos hp, ins_mem, List.mem_cons]
      constructor
      · rintro ((h | rfl) | h)
        · exact .inl h
        · exact .inr ⟨.inl rfl, hp⟩
        · exact .inr ⟨.inr h.1, h.2⟩
      · rintro (h | ⟨rfl | h, h2⟩)
        · exact .inl (.inl h)
        · exact .inl (.inr rfl)
        · exact .inr ⟨h, h2⟩
    · rw [if_neg hp, List.mem_cons]
      constructor
      · rintro (h | h)
        · exact .inl h
        · exact .inr ⟨.inr h.1, h.2⟩
      · rintro (h | ⟨rfl | h, h2⟩)
        · exact .inl h
        · exact absurd h2 hp
        · exact .inr ⟨h, h2⟩
theorem foldF_I {m : List Int} : ∀ (l s : List Int), (∀ y ∈ l, y ∈ m) → LiveI m s → LiveI m (l.foldl liveF s)
  | [], s, _, h => h
  | x :: l, s, hl, h => by
    rw [List.foldl_cons]
    exact foldF_I l _ (fun y hy => hl y (List.mem_cons_of_mem _ hy)) (liveF_I h (hl x List.mem_cons_self))
def allsB (v : List S53) (a : List S88) : List Int := v.flatMap fun x => allB a x.f1
theorem allsB_len (a : List S88) : ∀ v : List S53, (allsB v a).length = 16 * v.length
  | [] => by simp [allsB]
  | x :: v => by
    have ih := allsB_len a v
    unfold allsB at *
    rw [List.flatMap_cons, List.length_append, allB_len, ih, List.length_cons]
    omega
theorem lives_eq (v : List S53) (a : List S88) : (allsB v a).foldl liveF [] = liveB v a := by
  refine asc_eq (foldF_I (m := allsB v a) (allsB v a) [] (fun y h => h) ⟨List.Pairwise.nil, (fun y h => by cases h), fun y h => by cases h⟩).1 (live_asc v a) fun y => ?_
  rw [liveF_mem, live_mem]
  unfold allsB chunksB posL
  simp only [List.mem_flatMap, List.mem_filter, decide_eq_true_eq]
  constructor
  · rintro (h | ⟨⟨x, h1, h2⟩, h3⟩)
    · cases h
    · exact ⟨x, h1, h2, h3⟩
  · rintro ⟨x, h1, h2, h3⟩
    exact .inr ⟨⟨x, h1, h2⟩, h3⟩
theorem sLive_ev (v : List S53) (a : List S88) (n : Int) (hv : v.length ≤ 1048576) (ha : a.length ≤ 9223372036854775807) : Ev (fun k => spec_LiveOf.f k v a n) (liveB v a) := by
  rw [← lives_eq]
  have hm := allsB_len a v
  have small : ∀ s, LiveI (allsB v a) s → s.length ≤ 1073741824 := fun s h => by have := asc_len h.1 h.2.2; omega
  have hin : ∀ (x : S53), x ∈ v → ∀ y ∈ allB a x.f1, y ∈ allsB v a := fun x hx y hy => List.mem_flatMap.2 ⟨x, hx, hy⟩
  have main : ∀ (d i : Nat) (s : List Int), i + d = v.length → LiveI (allsB v a) s → Ev (fun k => spec_LiveOf.l0 k s (i : Int) v a n) ((allsB (v.drop i) a).foldl liveF s) := by
    intro d
    induction d with
    | zero =>
      intro i s hi hs
      refine ev_some fun k => ?_
      simp only [spec_LiveOf.l0]
      rw [if_neg (by omega), List.drop_eq_nil_of_le (by omega)]
      rfl
    | succ d ih =>
      intro i s hi hs
      have hil : i < v.length := by omega
      have hmem : v.getD i z53 ∈ v := getD_mem' hil
      rw [drop_get z53 hil]
      unfold allsB
      rw [List.flatMap_cons, List.foldl_append]
      have hA := allB_len a (v.getD i z53).f1
      have hI := hin _ hmem
      refine Ev.step (f := fun k => (spec_AllAt.f k a (v.getD i z53).f1).bind fun t => spec_LiveOf.l1 k s (i : Int) t 0 v a n) (fun k => ?_) (ev_bind (sAllAt_ev a _ ha) ?_)
      · simp only [spec_LiveOf.l0]
        rw [if_pos (by omega), if_pos (by omega), rdIV_nat]
      · generalize allB a (v.getD i z53).f1 = A at hA hI ⊢
        have inner : ∀ (e j : Nat) (s : List Int), j + e = A.length → LiveI (allsB v a) s → Ev (fun k => spec_LiveOf.l1 k s (i : Int) A (j : Int) v a n) ((allsB (v.drop (i + 1)) a).foldl liveF ((A.drop j).foldl liveF s)) := by
          intro e
          induction e with
          | zero =>
            intro j s hj hs
            rw [List.drop_eq_nil_of_le (by omega)]
            refine Ev.step (fun k => ?_) (ih (i + 1) s (by omega) hs)
            simp only [spec_LiveOf.l1]
            rw [if_neg (by omega), wsucc (n := v.length) hil (by omega)]
          | succ e ihe =>
            intro j s hj hs
            have hjl : j < A.length := by omega
            rw [drop_get 0 hjl, List.foldl_cons]
            refine Ev.step (f := fun k => (spec_l12Insert.f k s (A.getD j 0)).bind fun t => spec_LiveOf.l1 k t (i : Int) A ((j + 1 : Nat) : Int) v a n) (fun k => ?_) (ev_bind (sIns2_ev s _ (small s hs) hs.2.1) (ihe (j + 1) _ (by omega) (liveF_I hs (hI _ (getD_mem' hjl)))))
            simp only [spec_LiveOf.l1]
            rw [if_pos (by omega), if_pos (by omega), rd_nat, wsucc (n := A.length) hjl (by omega)]
        exact inner A.length 0 s (by omega) hs
  have h := main v.length 0 [] (by omega) ⟨List.Pairwise.nil, (fun y h => by cases h), fun y h => by cases h⟩
  rw [List.drop_zero] at h
  exact h
end Go.Proofs.Yteideicglgpfiaa.Pu

/- The counts of the chunks that live sum up to the sectors that have one. -/
namespace Go.Proofs.Yteideicglgpfiaa.Pu
set_option linter.unusedVariables false
set_option linter.unusedSimpArgs false
open Go.RowKit Go.Proofs.Yteideicglgpfiaa.PK Go.Proofs.YteideicglgpfiaaW.PrintWords

theorem sum_add (f g : Int → Nat) : ∀ L : List Int, (L.map fun c => f c + g c).sum = (L.map f).sum + (L.map g).sum
  | [] => rfl
  | c :: L => by simp only [List.map_cons, List.sum_cons, sum_add f g L]; omega
theorem sum_zero {f : Int → Nat} : ∀ {L : List Int}, (∀ c ∈ L, f c = 0) → (L.map f).sum = 0
  | [], _ => rfl
  | c :: L, h => by
    simp only [List.map_cons, List.sum_cons, h c List.mem_cons_self, sum_zero (L := L) fun y hy => h y (List.mem_cons_of_mem _ hy)]
theorem sum_one {y : Int} : ∀ {L : List Int}, L.Nodup → y ∈ L → (L.map fun c => if y = c then 1 else 0).sum = 1
  | [], _, h => by cases h
  | c :: L, hn, h => by
    obtain ⟨h1, h2⟩ := List.nodup_cons.1 hn
    simp only [List.map_cons, List.sum_cons]
    by_cases e : y = c
    · subst e
      rw [if_pos rfl, sum_zero fun c hc => if_neg fun e => h1 (by rw [e]; exact hc)]
    · rw [if_neg e, sum_one h2 ((List.mem_cons.1 h).resolve_left e)]
theorem sum_cnt {L : List Int} (hn : L.Nodup) : ∀ {M : List Int}, (∀ y ∈ M, y ∈ L) → (L.map fun c => cnt c M).sum = M.length
  | [], _ => sum_zero fun c _ => rfl
  | y :: M, h => by
    have e : (fun c => cnt c (y :: M)) = fun c => (if y = c then 1 else 0) + cnt c M := funext fun c => cnt_cons c y M
    rw [e, sum_add, sum_one hn (h y List.mem_cons_self), sum_cnt hn fun z hz => h z (List.mem_cons_of_mem _ hz), List.length_cons]
    omega
theorem asc_nodup {L : List Int} (h : Asc L) : L.Nodup := List.Pairwise.imp (fun h => by omega) h
theorem live_sum (v : List S53) (a : List S88) : ((liveB v a).map fun c => refsB v a c).sum = (chunksB v a).length :=
  sum_cnt (asc_nodup (live_asc v a)) fun y h => (live_mem v a y).2 h
theorem cnt_mem {c : Int} : ∀ {M : List Int}, c ∈ M → 1 ≤ cnt c M
  | [], h => by cases h
  | y :: M, h => by
    rw [cnt_cons]
    rcases List.mem_cons.1 h with rfl | h
    · rw [if_pos rfl]; omega
    · have := cnt_mem h; omega
theorem cnt_no {c : Int} : ∀ {M : List Int}, ¬ c ∈ M → cnt c M = 0
  | [], _ => rfl
  | y :: M, h => by
    rw [cnt_cons, if_neg (fun e => h (by rw [e]; exact List.mem_cons_self)), cnt_no fun g => h (List.mem_cons_of_mem _ g)]
theorem chunks_lt {v : List S53} {a : List S88} {n : Int} (h : Half v a n) : ∀ y ∈ chunksB v a, y < n := by
  intro y hy
  unfold chunksB at hy
  obtain ⟨x, hx, hy⟩ := List.mem_flatMap.1 hy
  unfold posL at hy
  have hy := (List.mem_filter.1 hy).1
  unfold allB at hy
  obtain ⟨i, _, rfl⟩ := List.mem_map.1 hy
  exact (h.2.2.2.2 x hx).2.2 _
theorem refs_next {v : List S53} {a : List S88} {n : Int} (h : Half v a n) : refsB v a n = 0 := cnt_no fun g => by have := chunks_lt h n g; omega
theorem refs_live {v : List S53} {a : List S88} {c : Int} (h : c ∈ liveB v a) : 1 ≤ refsB v a c := cnt_mem ((live_mem v a c).1 h)
theorem take_next {α : Type} (l : List α) (i : Nat) (z : α) (h : i < l.length) : l.take (i + 1) = l.take i ++ [l.getD i z] := by
  rw [List.take_succ_eq_append_getElem h, gdE z h]
theorem pos_next (l : List Int) (i : Nat) (h : i < l.length) : (posL (l.take (i + 1))).length = (posL (l.take i)).length + if l.getD i 0 > 0 then 1 else 0 := by
  rw [take_next l i 0 h]
  unfold posL
  rw [List.filter_append, List.length_append]
  congr 1
  by_cases e : l.getD i 0 > 0
  · rw [if_pos e, List.filter_cons, if_pos (decide_eq_true e)]; rfl
  · rw [if_neg e, List.filter_cons, if_neg (by rw [decide_eq_false e]; decide)]; rfl
theorem chunks_next (v : List S53) (a : List S88) (i : Nat) (h : i < v.length) : (chunksB (v.take (i + 1)) a).length = (chunksB (v.take i) a).length + (posL (allB a (v.getD i z53).f1)).length := by
  rw [take_next v i z53 h]
  unfold chunksB
  rw [List.flatMap_append, List.length_append, List.flatMap_singleton]
theorem sum_next {L : List Int} (f : Int → Nat) (i : Nat) (h : i < L.length) : ((L.take (i + 1)).map f).sum = ((L.take i).map f).sum + f (L.getD i 0) := by
  rw [take_next L i 0 h, List.map_append, List.sum_append, List.map_singleton, List.sum_singleton]
theorem sum_le {L : List Int} {f : Int → Nat} (i : Nat) : ((L.take i).map f).sum ≤ (L.map f).sum := by
  conv => rhs; rw [← List.take_append_drop i L]
  rw [List.map_append, List.sum_append]
  omega
theorem chunk_at {v : List S53} {a : List S88} {n : Int} (h : Half v a n) {i : Nat} (hi : i < v.length) (s : Int) : chunkB v a (v.getD i z53).f0 s = getB a (v.getD i z53).f1 s := by
  unfold chunkB
  rw [volB_at h.2.2.2.1 hi, if_neg (by omega), Int.toNat_natCast]
end Go.Proofs.Yteideicglgpfiaa.Pu

/- A list is as itself; a wood's bounds. -/
namespace Go.Proofs.Yteideicglgpfiaa.Pu
set_option linter.unusedVariables false
set_option linter.unusedSimpArgs false
open Go.RowKit Go.Proofs.Yteideicglgpfiaa.PK Go.Proofs.YteideicglgpfiaaW.PrintWords

theorem same_ev (l : List Int) (hl : l.length ≤ 9223372036854775807) : Ev (fun k => laws_sameInts.f k l l) true := by
  unfold laws_sameInts.f
  simp only [if_true]
  have main : ∀ (d i : Nat), i + d = l.length → Ev (fun k => laws_sameInts.l0 k l l (i : Int)) true := by
    intro d
    induction d with
    | zero => intro i hi; exact ev_some fun k => by simp only [laws_sameInts.l0]; rw [if_neg (by omega)]
    | succ d ih =>
      intro i hi
      refine Ev.step (fun k => ?_) (ih (i + 1) (by omega))
      simp only [laws_sameInts.l0]
      rw [if_pos (by omega), if_pos (by omega), if_pos (by omega), if_pos trivial, wsucc (n := l.length) (by omega) hl]
  exact main l.length 0 (by omega)
theorem same_ev' {l m : List Int} (e : l = m) (hl : l.length ≤ 9223372036854775807) : Ev (fun k => laws_sameInts.f k l m) true := by
  subst e; exact same_ev l hl
theorem mod_lt {x n : Int} (h : 0 ≤ x) (hn : 0 < n) : 0 ≤ Int.tmod x n ∧ Int.tmod x n < n := ⟨Int.tmod_nonneg _ h, Int.tmod_lt_of_pos _ hn⟩
end Go.Proofs.Yteideicglgpfiaa.Pu

/- The law FnRefs: the chunks that live ascend and are had; their counts sum up to the sectors that have one. -/
namespace Go.Proofs.Yteideicglgpfiaa.M2.Mp
set_option linter.unusedVariables false
set_option linter.unusedSimpArgs false
open Go.RowKit Go.Proofs.Yteideicglgpfiaa.PK Go.Proofs.YteideicglgpfiaaW.PrintWords Go.Proofs.Yteideicglgpfiaa.Pu

theorem iRefsX (v : List S53) (a : List S88) (n c : Int) (hv : v.length ≤ 1048576) (ha : a.length ≤ 1048576) : EvX (fun k => impl_RefsOf.f k v a n c) (fun r => r = (refsB v a c : Int)) :=
  ⟨_, ev_rel (iRefs_ev v a n c hv (by omega)) (fun k r hh m hm => impl_RefsOf.rel k v a n c r hh m hm), rfl⟩
theorem sRefsX (v : List S53) (a : List S88) (n c : Int) (hv : v.length ≤ 1048576) (ha : a.length ≤ 1048576) : EvX (fun k => spec_RefsOf.f k v a n c) (fun r => r = (refsB v a c : Int)) :=
  ⟨_, ev_rel (sRefs_ev v a n c hv (by omega)) (fun k r hh m hm => spec_RefsOf.rel k v a n c r hh m hm), rfl⟩
theorem iLiveX (v : List S53) (a : List S88) (n : Int) (hv : v.length ≤ 1048576) (ha : a.length ≤ 1048576) : EvX (fun k => impl_LiveOf.f k v a n) (fun r => r = liveB v a) :=
  ⟨_, ev_rel (iLive_ev v a n hv (by omega)) (fun k r hh m hm => impl_LiveOf.rel k v a n r hh m hm), rfl⟩
theorem sLiveX (v : List S53) (a : List S88) (n : Int) (hv : v.length ≤ 1048576) (ha : a.length ≤ 1048576) : EvX (fun k => spec_LiveOf.f k v a n) (fun r => r = liveB v a) :=
  ⟨_, ev_rel (sLive_ev v a n hv (by omega)) (fun k r hh m hm => spec_LiveOf.rel k v a n r hh m hm), rfl⟩
theorem iChunkX (v : List S53) (a : List S88) (n id s : Int) (hv : v.length ≤ 1048576) (ha : a.length ≤ 1048576) : EvX (fun k => impl_ChunkOf.f k v a n id s) (fun r => r = chunkB v a id s) :=
  ⟨_, ev_rel (iChunkOf_ev v a n id s hv (by omega)) (fun k r hh m hm => impl_ChunkOf.rel k v a n id s r hh m hm), rfl⟩
theorem asc_get {L : List Int} (h : Asc L) {i : Nat} (h0 : 0 < i) (hi : i < L.length) : L.getD (i - 1) 0 < L.getD i 0 := by
  have := List.pairwise_iff_getElem.1 h (i - 1) i (by omega) hi (by omega)
  rw [gdE _ hi, gdE _ (show i - 1 < L.length by omega)]
  exact this
theorem refs1 {v : List S53} {a : List S88} {n : Int} (hR : storeB v a n = true) (ha : a.length ≤ 28) {L : List Int} (hL : L = liveB v a) {N : Nat} (hN : N = (chunksB v a).length) :
    ∀ (d i : Nat), i + d = v.length → EvX (fun k => laws_FnRefs.c15 k (N : Int) ((chunksB (v.take i) a).length : Int) (i : Int) v a n L) (fun r => r = true) := by
  obtain ⟨hh, hf⟩ := right_iff.1 hR
  have hv : v.length ≤ 3 := hh.1
  have hcl := chunksB_len a v
  intro d
  induction d with
  | zero =>
    intro i hi
    refine evx_step (fun k => by rw [laws_FnRefs.c15]) (evx_neg (by omega) ?_)
    rw [List.take_of_length_le (by omega)]
    refine evx_pos (by omega) ?_
    refine evx_bind (sLiveX v a n (by omega) (by omega)) fun t6 e6 => ?_
    subst e6
    have hll := live_len v a
    rw [hL]
    refine evx_bind (Q := fun t => t = true) ⟨_, ev_rel (c := id) (same_ev (liveB v a) (by omega)) (fun k r hh m hm => laws_sameInts.rel k _ _ r hh m hm), rfl⟩ fun t7 e7 => evx_pos e7 ?_
    refine evx_bind (iRefsX v a n 0 (by omega) (by omega)) fun t8 e8 => ?_
    rw [chunks_neg (by omega) a v] at e8
    refine evx_pos e8 ?_
    refine evx_bind (iRefsX v a n n (by omega) (by omega)) fun t9 e9 => evx_some ?_
    rw [refs_next hh] at e9
    exact decide_eq_true e9
  | succ d ih =>
    intro i hi
    have hil : i < v.length := by omega
    have hV : rd_T53 v (i : Int) = v.getD i z53 := rfl
    refine evx_step (fun k => by rw [laws_FnRefs.c15]) (evx_pos (by omega) ?_)
    have hnext := chunks_next v a i hil
    have hle := chunksB_len a (v.take i)
    rw [List.length_take] at hle
    have inner : ∀ (e s : Nat), s + e = 16 → EvX (fun k => laws_FnRefs.c18 k (N : Int) (((chunksB (v.take i) a).length + (posL ((allB a (v.getD i z53).f1).take s)).length : Nat) : Int) (i : Int) (s : Int) v a n L) (fun r => r = true) := by
      intro e
      induction e with
      | zero =>
        intro s hs
        refine evx_step (fun k => by rw [laws_FnRefs.c18]) (evx_neg (by omega) ?_)
        have et : (allB a (v.getD i z53).f1).take s = allB a (v.getD i z53).f1 := List.take_of_length_le (by rw [allB_len]; omega)
        rw [m64 (n := v.length) hil (by omega), et, ← hnext]
        exact ih (i + 1) (by omega)
      | succ e ihe =>
        intro s hs
        refine evx_step (fun k => by rw [laws_FnRefs.c18]) (evx_pos (by omega) (evx_pos (by omega) (evx_pos (by omega) ?_)))
        rw [hV]
        refine evx_bind (iChunkX v a n _ (s : Int) (by omega) (by omega)) fun t e => ?_
        rw [chunk_at hh hil, ← allB_get a _ (show s < 16 by omega)] at e
        have hp := pos_next (allB a (v.getD i z53).f1) s (by rw [allB_len]; omega)
        have hq := posL_len ((allB a (v.getD i z53).f1).take s)
        rw [List.length_take] at hq
        have h2 := ihe (s + 1) (by omega)
        rw [hp] at h2
        rw [m64 (i := s) (n := 16) (by omega) (by omega)]
        refine evx_ite (fun h => ?_) (fun h => ?_)
        · rw [if_pos (show (allB a (v.getD i z53).f1).getD s 0 > 0 by omega)] at h2
          rw [m64i (x := (((chunksB (v.take i) a).length + (posL ((allB a (v.getD i z53).f1).take s)).length : Nat) : Int) + 1) (by omega) (by omega)]
          rw [show ((((chunksB (v.take i) a).length + (posL ((allB a (v.getD i z53).f1).take s)).length : Nat) : Int) + 1) = (((chunksB (v.take i) a).length + ((posL ((allB a (v.getD i z53).f1).take s)).length + 1) : Nat) : Int) by omega]
          exact h2
        · rw [if_neg (show ¬ (allB a (v.getD i z53).f1).getD s 0 > 0 by omega)] at h2
          exact h2
    have h0 := inner 16 0 (by omega)
    exact h0
theorem fnRefsX (b : List Int) : EvX (fun k => laws_FnRefs.f k b) (fun r => r = true) := by
  simp only [laws_FnRefs.f]
  refine evx_bind (bigX b) fun t ht => ?_
  refine evx_ite (fun _ => evx_some rfl) (fun hbig => ?_)
  have hlen : b.length ≤ 1048576 := by
    rw [ht] at hbig
    simp only [decide_eq_true_eq] at hbig
    omega
  have hb : Cb b := by show b.length ≤ _; omega
  refine evx_bind (storeRecX b hb) fun t2 ⟨hR, ha⟩ => ?_
  obtain ⟨v, a, n, q⟩ := t2
  have hR : storeB v a n = true := hR
  have ha : a.length ≤ 28 := ha
  show EvX (fun k => (impl_LiveOf.f k v a n).bind fun t3 => laws_FnRefs.c7 k 0 0 v a n t3) _
  obtain ⟨hh, hf⟩ := right_iff.1 hR
  have hv : v.length ≤ 3 := hh.1
  refine evx_bind (iLiveX v a n (by omega) (by omega)) fun L hL => ?_
  have hsum := live_sum v a
  rw [← hL] at hsum
  have hcl := chunksB_len a v
  have hll := live_len v a
  rw [← hL] at hll
  have hasc := live_asc v a
  rw [← hL] at hasc
  have main : ∀ (d i : Nat), i + d = L.length → EvX (fun k => laws_FnRefs.c7 k ((((L.take i).map fun c => refsB v a c).sum : Nat) : Int) (i : Int) v a n L) (fun r => r = true) := by
    intro d
    induction d with
    | zero =>
      intro i hi
      refine evx_step (fun k => by rw [laws_FnRefs.c7]) (evx_neg (by omega) ?_)
      rw [List.take_of_length_le (by omega)]
      have h := refs1 hR ha hL hsum v.length 0 (by omega)
      exact h
    | succ d ih =>
      intro i hi
      have hil : i < L.length := by omega
      have hm : L.getD i 0 ∈ liveB v a := by rw [← hL, gdE _ hil]; exact List.getElem_mem hil
      have h1 := refs_live hm
      have hs := sum_next (L := L) (fun c => refsB v a c) i hil
      have hle := sum_le (L := L) (f := fun c => refsB v a c) (i + 1)
      rw [hsum, hs] at hle
      refine evx_step (fun k => by rw [laws_FnRefs.c7]) (evx_pos (by omega) (evx_pos (by omega) (evx_pos (by omega) ?_)))
      rw [show rd_T3 L (i : Int) = L.getD i 0 from rfl]
      refine evx_bind (iRefsX v a n _ (by omega) (by omega)) fun t4 e4 => evx_neg (by omega) (evx_pos (by omega) (evx_pos (by omega) ?_))
      refine evx_bind (sRefsX v a n _ (by omega) (by omega)) fun t5 e5 => evx_pos (by omega) ?_
      have hn : M2.w64 (((((L.take i).map fun c => refsB v a c).sum : Nat) : Int) + t4) = ((((L.take (i + 1)).map fun c => refsB v a c).sum : Nat) : Int) := by
        rw [m64i (by omega) (by omega), hs, e4]; omega
      rw [hn, m64 (n := L.length) hil (by omega)]
      refine evx_ite (fun h => ?_) (fun h => ih (i + 1) (by omega))
      rw [m64i (x := (i : Int) - 1) (by omega) (by omega), show (i : Int) - 1 = ((i - 1 : Nat) : Int) by omega, show rd_T3 L ((i - 1 : Nat) : Int) = L.getD (i - 1) 0 from rfl]
      have := asc_get hasc (i := i) (by omega) hil
      exact evx_pos (by omega) (evx_pos (by omega) (evx_pos (by omega) (evx_pos (by omega) (evx_neg (by omega) (ih (i + 1) (by omega))))))
  exact main L.length 0 (by omega)
end Go.Proofs.Yteideicglgpfiaa.M2.Mp
namespace Go.Proofs.Yteideicglgpfiaa.Pure
open Go.Proofs.Yteideicglgpfiaa.M2
theorem FnRefs (l : List Int) (_ : ∀ n ∈ l, (Go.Lit.int .u8 n).wf = true) : ∃ k, laws_FnRefs.f k l = some true := Mp.evx_out (Mp.fnRefsX l)
end Go.Proofs.Yteideicglgpfiaa.Pure

/- From a function's contract to a call of it from without: what it answers; what was there stays. -/
namespace Go.Proofs.Yteideicglgpfiaa.M2
open Go Go.RowKit
set_option linter.unusedVariables false
section
variable {Ty : Type} {D : Ty → Type} {P : Program} {K : Kit Ty D}
theorem hp0 (k : Nat) : hpOf ([] : List (Blk Ty D)) k = none := rfl
theorem blk0 (nm : Nm) : blkAt K (hpOf ([] : List (Blk Ty D))) nm = none := by
  unfold blkAt; cases nm.sub <;> rfl
theorem own0 (γ : Nm → Hdr) (g : Nat) (nm : Nm) : ¬ Own K (hpOf ([] : List (Blk Ty D))) γ g nm := by
  rintro ⟨⟨b, hb⟩, _⟩; rw [blk0] at hb; cases hb
/-- The memory of a call from without. -/
def Out (Ty : Type) (D : Ty → Type) (w : World) : Mem Ty D := ⟨w, fun _ g => g < w.heap.size, hpOf [], fun _ => (none, 0), (· < ([] : List (Blk Ty D)).length)⟩
theorem top {f : FuncId} {ins : List (AV Ty D)} {v : Value} (h : Contract P K f ins [] (.sc v) [] []) (w : World) (args : Array Value) (hsz : args.size = ins.length)
    (ha : ∀ (k : Nat) u x, args[k]? = some u → ins[k]? = some x → x ≠ .dd ∧ Va K (Out Ty D w) u x) : Calls P f args w fun e w' => e = .returned v ∧ Below w.heap.size w w' := by
  have hl : Lay K (Out Ty D w) := by
    refine ⟨fun nm b hb => ?_, fun g nm nm' h => (own0 _ _ _ h).elim, fun g hg => hg, fun g hg => ⟨hg, fun nm => own0 _ _ _⟩, fun id b hb => ?_⟩
    · rw [show blkAt K (Out Ty D w).H nm = none from blk0 nm] at hb; cases hb
    · cases hb
  refine (h.2.2 w (fun _ g => g < w.heap.size) (fun _ => (none, 0)) args hl (fun g hg _ => hg) hsz ha).mono fun e w' he => ?_
  obtain ⟨u, γ', he, _, _, hv, hk, _⟩ := he
  have hu : u = v := hv.1
  exact ⟨by rw [he, hu], hk.os, hk.tape, hk.output, hk.size, fun k hk' => hk.block k hk' (fun ⟨nm, ho⟩ => own0 _ _ _ ho)⟩
/-- A row of scalars that was there. -/
theorem fz_flat {w : World} {t : Ty} {l : List (D t)} {n : D t → Value} (hc : K.cells t = 1) (he : ∀ x, K.emb t x = [.sc (n x)]) (hs : ∀ x, scalar (n x) = true) {g o c len : Nat} (hg : g < w.heap.size) (hl : l.length = len) (hle : len ≤ c)
    (hcell : ∀ (i : Nat) x, l[i]? = some x → w.cell? ⟨g, o + i, none⟩ = some (n x)) (q : Nat) : Fz K w (fun g => g < w.heap.size) (.slice (some ⟨g, o, none⟩) len c) (.row q t l) := by
  subst hl
  refine ⟨1, _, _, rfl, hle, .inr ⟨g, o, rfl, hg, fun i x hx j cc hj => ?_⟩⟩
  rw [he] at hj
  cases j with
  | succ j => simp at hj
  | zero =>
    simp at hj; subst hj
    refine ⟨n x, ?_, rfl, hs x⟩
    rw [hc, ← hcell i x hx]; congr 2; omega
theorem fz_nil {w : World} {S : Nat → Prop} {t : Ty} {a : Option Addr} {c : Nat} (q : Nat) : Fz K w S (.slice a 0 c) (.row q t []) := ⟨1, a, c, rfl, Nat.zero_le _, .inl rfl⟩
end
end Go.Proofs.Yteideicglgpfiaa.M2

/- The law FnRefs holds, for every input: from its function's contract and the plain statement of what it answers. -/
namespace Go.Proofs.Yteideicglgpfiaa.fnRefs
set_option linter.unusedVariables false
set_option linter.unusedSimpArgs false
open Go Go.ChangeShapes Go.WideShapes Go.ChangeAt Go.RowKit
open Go.Proofs.Yteideicglgpfiaa.M2 (top fz_nil fz_flat Fz Va Vc Out kit AV Ty D Contract)
theorem own : ownKnob Try.prog.godebug = none := by kernel_rfl
theorem laidOut : laidOutB Try.prog = true := by kernel_rfl
/-- Bytes that were there. -/
theorem bytes {H : Type} {enc : TypeId × Value → H} {W : World} {fuel : Nat} {v : Value} {x : DataW H × List MemPlace} (h : DataW.trod enc Try.prog W 0 (fun _ => true) true fuel 45 v.cells.toList = some x) {a : Option Addr} {len cap : Nat} (hv : v = .slice a len cap) :
    ∃ l : List Int, (∀ n ∈ l, (Lit.int .u8 n).wf = true) ∧ Fz kit W (fun g => g < W.heap.size) v (.row 0 .t5 l) := by
  subst hv
  rcases open_ints Try.underlying45 Try.underlying5 (by kernel_rfl) h with ⟨hcs, _⟩ | ⟨y, l, c, zs, hcs, _, hl, hm, hz, _, hcell, hwz⟩
  · simp [Value.cells] at hcs
    obtain ⟨rfl, rfl, rfl⟩ := hcs
    exact ⟨[], by simp, fz_nil 0⟩
  · simp [Value.cells] at hcs
    obtain ⟨rfl, rfl, rfl⟩ := hcs
    have hz : zs.length = cap := by simpa using hz
    refine ⟨zs.take len, fun n hn => hwz n (List.mem_of_mem_take hn), ?_⟩
    have hlen : (zs.take len).length = len := by rw [List.length_take]; omega
    cases len with
    | zero => rw [List.take_zero]; exact fz_nil 0
    | succ m =>
      have h0 := hcell 0 (by omega)
      have hsp : y.spot = none := by
        have := World.cell?_spot h0
        simpa [Addr.add] using this
      obtain ⟨g, o, sp⟩ := y
      simp only at hsp
      subst hsp
      have hadd : ∀ j, (⟨g, o, none⟩ : Addr).add j = ⟨g, o + j, none⟩ := fun j => by unfold Addr.add; split <;> simp_all
      have hg : g < W.heap.size := by
        rw [hadd] at h0
        unfold World.cell? at h0
        rcases Nat.lt_or_ge g W.heap.size with h | h
        · exact h
        · simp [Array.getElem?_eq_none h] at h0
      have key := fz_flat (K := kit) (w := W) (t := .t5) (l := zs.take (m + 1)) (n := fun x : Int => .int .u8 x) rfl (fun x => rfl) (fun x => rfl) (g := g) (o := o) (c := cap) (len := m + 1) hg hlen (by omega) (fun i (x : Int) (hx : (List.take (m + 1) zs : List Int)[i]? = some x) => by
        have hx : (List.take (m + 1) zs : List Int)[i]? = some x := hx
        have hi : i < (zs.take (m + 1)).length := (List.getElem?_eq_some_iff.1 hx).1
        rw [← hadd, hcell i (by rw [hlen] at hi; omega)]
        rw [List.getElem?_take] at hx
        split at hx
        · have hx : zs[i]? = some x := hx
          congr 2
          rw [List.getD_eq_getElem?_getD, hx]; rfl
        · cases hx) 0
      exact key
set_option maxRecDepth 100000 in
theorem lifted (os : Os) (started : os.Started) (H : Type) (enc : TypeId × Value → H) :
    ReturnsInHanded {} Try.checked os 4 .any (Rows.fnRefsSpec.pre6 enc Try.prog Try.f4 Rows.fnRefsRow.domain false) (Rows.fnRefsSpec.post enc Try.prog Try.f4 false true false false) := by
  refine returnsInHanded_of_change_sized (C := Try.checked) own started (by kernel_rfl) Try.func4
    (ChangeSpec.witness6 (enc := enc) (C := Try.checked) false ⟨#[], #[.slice none 0 0], []⟩ 8 (by kernel_rfl) (by kernel_rfl) (by kernel_rfl) (by kernel_rfl)) ?_
  intro W base args ds gs before hval0 hW hcnd hsz0 _
  have hval : ∀ (j : Nat) t v, Try.f4.params[j]? = some t → args[j]? = some v → Value.okWide Try.prog W .any base t v := hval0
  have hW' := hW
  obtain ⟨p, q, hA0, hV, rfl, hfz, hnd⟩ := hW
  have hA : DataW.TrodAll enc Try.prog W 0 (fun _ => true) true Try.f4.params.toList args.toList ds p := hA0
  rw [Try.params4] at hA hval
  obtain ⟨v0, vs0, d0, ds0, p0, q0, hargs, rfl, rfl, h0, r0⟩ := trodAll_cons hA
  obtain ⟨rfl, rfl, rfl⟩ := trodAll_nil r0
  obtain rfl : args = #[v0] := by cases args; simp_all
  obtain ⟨rfl, rfl⟩ := trodVars_none hV
  obtain ⟨a0, len0, cap0, e0⟩ := okWide_slice Try.underlying45 (hval 0 45 v0 rfl rfl)
  have k0 := h0
  have lt0 : ∀ x ∈ p0, x.block < W.heap.size := by obtain ⟨m, hm⟩ := k0; exact DataW.trod_lt m _ _ _ hm
  obtain ⟨l, wl, fz⟩ : ∃ l : List Int, (∀ n ∈ l, (Lit.int .u8 n).wf = true) ∧ Fz kit W (fun g => g < W.heap.size) v0 (.row 0 .t5 l) := by
    obtain ⟨fuel, hf⟩ := h0
    exact bytes hf e0
  clear hA0 hval0 hsz0
  obtain ⟨k, hp⟩ := Pure.FnRefs l wl
  have con : Contract Try.prog kit 4 [.row 0 .t5 l] [] (.sc (.bool true)) [] [] := M2.laws_FnRefs.con k l true hp
  refine (top con W #[v0] rfl (fun j u x hu hx => by
    cases j with
    | succ j => simp at hu
    | zero =>
      have hu : v0 = u := by simpa using hu
      have hx : (.row 0 .t5 l : AV Ty D) = x := by simpa using hx
      subst hu hx
      exact ⟨by simp, fz⟩)).mono fun e W' ⟨he, bel⟩ => ?_
  subst he
  exact ⟨_, rfl, _, _, _, [], _, [], hW', trodAll_mk1 (shut_bool Try.underlying4 _), (trodAll_cons_mk (Below.trod laidOut (by kernel_rfl) (of_decide_eq_true (by kernel_rfl)) k0 bel lt0) trodAll_mk0), rfl, bel.frame _, fun h => by cases h⟩
theorem over : Rows.fnRefsRow.holds Try.pinned (OpenSpec.ofChange Rows.fnRefsSpec) :=
  OpenClaim.holds_of_wide 4 Try.f4 rfl rfl rfl rfl rfl rfl rfl ⟨rfl, rfl, rfl, rfl, rfl⟩ rfl rfl rfl rfl rfl (by kernel_rfl) Try.func4 (by kernel_rfl)
    (of_decide_eq_true (by kernel_rfl)) (by unfold Func.isWrapper; first | (rw [if_pos (by decide +kernel)]; kernel_rfl) | (rw [if_neg (by decide +kernel)]; exact ⟨rfl, rfl⟩))
    (fun os started H enc _ => lifted os started H enc)
end Go.Proofs.Yteideicglgpfiaa.fnRefs
namespace Go.Proofs.Yteideicglgpfiaa
/-- The row, under a short name, for the claim. -/
theorem fnRefs_holds : Rows.FnRefsSaid := fnRefs.over
end Go.Proofs.Yteideicglgpfiaa
