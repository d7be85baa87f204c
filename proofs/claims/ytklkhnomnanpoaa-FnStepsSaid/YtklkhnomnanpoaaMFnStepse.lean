/- FnSteps: functions of the translation as Lean functions with what their calls come to, plain lemmas on them, and, at the end, the row. Parts of one proof, merged by a program of this session; each part's own sentence stands at its head. -/
import Derived.Below
import Derived.Test.YtklkhnomnanpoaaRows
import Derived.WalkKit
import Derived.ProofKit
import Derived.OpenShut
import Derived.ShutString
import Derived.ChangeOld
import Derived.SizedLaws
import Derived.ChangeSlices
import Derived.Test.YtklkhnomnanpoaaMFnStepsd
/- The law FnSteps: drawn steps done in two parts are as done at once. -/
namespace Go.Proofs.Ytklkhnomnanpoaa.M2.Mp
set_option linter.unusedVariables false
set_option linter.unusedSimpArgs false
open Go.RowKit Go.Proofs.Ytklkhnomnanpoaa.PK Go.Proofs.YtklkhnomnanpoaaW.PrintWords Go.Proofs.Ytklkhnomnanpoaa.Pu

theorem runB_range (L : List S56) : ∀ (d i : Nat) (f : List S83), i + d = L.length → (i : Int) ≤ (runB L d i f).2 ∧ (runB L d i f).2 ≤ L.length := by
  intro d
  induction d with
  | zero => intro i f h; show (i : Int) ≤ (L.length : Int) ∧ (L.length : Int) ≤ L.length; omega
  | succ d ih =>
    intro i f h
    unfold runB
    split
    · have := ih (i + 1) (doB f (L.getD i z56).f0 (L.getD i z56).f1 (L.getD i z56).f2 (L.getD i z56).f3).1 (by omega); omega
    · show (i : Int) ≤ (i : Int) ∧ (i : Int) ≤ L.length; omega
theorem runB_shift {L M : List S56} : ∀ (d i j : Nat) (f : List S83), i + d = L.length → j + d = M.length → (∀ q, q < d → M.getD (j + q) z56 = L.getD (i + q) z56) →
    runB M d j f = ((runB L d i f).1, (runB L d i f).2 - i + j) := by
  intro d
  induction d with
  | zero =>
    intro i j f hi hj _
    unfold runB
    congr 1
    omega
  | succ d ih =>
    intro i j f hi hj hq
    have h0 := hq 0 (by omega)
    simp only [Nat.add_zero] at h0
    unfold runB
    rw [h0]
    split
    · rw [ih (i + 1) (j + 1) _ (by omega) (by omega) (fun q hqd => by
        have := hq (q + 1) (by omega)
        rw [show j + (q + 1) = j + 1 + q by omega, show i + (q + 1) = i + 1 + q by omega] at this
        exact this)]
      congr 1
      omega
    · congr 1
      omega
theorem runB_split {L M : List S56} : ∀ (e d i j : Nat) (f : List S83), i + d = L.length → j + e = M.length → e ≤ d → (∀ q, q < e → M.getD (j + q) z56 = L.getD (i + q) z56) →
    (i : Int) + e ≤ (runB L d i f).2 → ∃ b, runB M e j f = (b, ((j + e : Nat) : Int)) ∧ runB L d i f = runB L (d - e) (i + e) b := by
  intro e
  induction e with
  | zero =>
    intro d i j f hi hj _ _ _
    exact ⟨f, by unfold runB; congr 1; omega, rfl⟩
  | succ e ih =>
    intro d i j f hi hj hed hq hn
    cases d with
    | zero => omega
    | succ d =>
      have h0 := hq 0 (by omega)
      simp only [Nat.add_zero] at h0
      unfold runB at hn
      split at hn
      · rename_i hok
        obtain ⟨b, h1, h2⟩ := ih d (i + 1) (j + 1) (doB f (L.getD i z56).f0 (L.getD i z56).f1 (L.getD i z56).f2 (L.getD i z56).f3).1 (by omega) (by omega) (by omega) (fun q hqd => by
          have := hq (q + 1) (by omega)
          rw [show j + (q + 1) = j + 1 + q by omega, show i + (q + 1) = i + 1 + q by omega] at this
          exact this) (by omega)
        refine ⟨b, ?_, ?_⟩
        · show runB M (e + 1) j f = _
          unfold runB
          rw [h0, if_pos hok, h1]
          congr 1; omega
        · have e1 : runB L (d + 1) i f = runB L d (i + 1) (doB f (L.getD i z56).f0 (L.getD i z56).f1 (L.getD i z56).f2 (L.getD i z56).f3).1 := by
            show (if _ then _ else _) = _
            rw [if_pos hok]
          rw [e1, h2]
          congr 1 <;> omega
      · have hn : (i : Int) + ((e + 1 : Nat) : Int) ≤ (i : Int) := hn
        omega
theorem small_run {f : List S83} (L : List S56) (d i : Nat) (h : Small f) : Small (runB L d i f).1 := runB_le L d i f h.1 h.2
theorem getD_take {α : Type} (l : List α) (n q : Nat) (z : α) (h : q < n) : (l.take n).getD q z = l.getD q z := by
  simp [List.getD_eq_getElem?_getD, List.getElem?_take, h]
theorem getD_drop {α : Type} (l : List α) (n q : Nat) (z : α) : (l.drop n).getD q z = l.getD (n + q) z := by
  simp [List.getD_eq_getElem?_getD, List.getElem?_drop]
theorem fnStepsX (b : List Int) : EvX (fun k => laws_FnSteps.f k b) (fun r => r = true) := by
  simp only [laws_FnSteps.f]
  refine evx_bind (bigX b) fun t ht => ?_
  refine evx_ite (fun _ => evx_some rfl) (fun hbig => ?_)
  have hlen : b.length ≤ 1048576 := by
    rw [ht] at hbig
    simp only [decide_eq_true_eq] at hbig
    omega
  have hb : Cb b := by show b.length ≤ _; omega
  refine evx_bind (drawStepsX b hb) fun ⟨f, L⟩ ⟨hs, hL⟩ => ?_
  dsimp only at *
  refine evx_bind (iStepsX hs (by omega)) fun t3 e3 => ?_
  refine evx_bind (sStepsX hs (by omega)) fun t4 e4 => ?_
  subst e3
  subst e4
  have hr := runB_range L L.length 0 f (by omega)
  refine evx_pos rfl ?_
  refine evx_bind (sameX (small_run L L.length 0 hs)) fun t5 e5 => ?_
  refine evx_pos e5 (evx_neg (by omega) ?_)
  refine evx_bind (placesX b hb) fun p ⟨hp, hp2⟩ => ?_
  have hn1 : M2.w64 ((runB L L.length 0 f).2 + 1) = (runB L L.length 0 f).2 + 1 := m64i (by omega) (by omega)
  have hp0 : 0 ≤ rd_T3 p 0 := (hp2 _ (by
    show p.getD 0 0 ∈ p
    exact getD_mem' (by omega))).1
  obtain ⟨k, hk⟩ : ∃ k : Nat, Int.tmod (rd_T3 p 0) ((runB L L.length 0 f).2 + 1) = (k : Int) := ⟨(Int.tmod (rd_T3 p 0) ((runB L L.length 0 f).2 + 1)).toNat, by
    have := Int.tmod_nonneg ((runB L L.length 0 f).2 + 1) hp0; omega⟩
  have hkn : (k : Int) < (runB L L.length 0 f).2 + 1 := by rw [← hk]; exact Int.tmod_lt_of_pos _ (by omega)
  simp only [hn1, hk, Int.toNat_natCast]
  refine evx_pos (by omega) (evx_neg (by omega) (evx_pos (by omega) (evx_pos (by omega) ?_)))
  have hM : ((L.drop 0).take (k - 0)).length = k := by simp; omega
  obtain ⟨c, h1, h2⟩ := runB_split (L := L) (M := (L.drop 0).take (k - 0)) k L.length 0 0 f (by omega) (by omega) (by omega) (fun q hq => by
    simp only [Nat.zero_add, List.drop_zero, Nat.sub_zero]; exact getD_take L k q _ hq) (by omega)
  refine evx_bind (iStepsX hs (by omega)) fun t7 e7 => ?_
  rw [hM, h1] at e7
  subst e7
  have hc : Small c := by
    have := small_run ((L.drop 0).take (k - 0)) k 0 hs
    rw [h1] at this; exact this
  refine evx_pos (by omega) (evx_pos (by omega) ?_)
  have hM2 : ((L.drop k).take (L.length - k)).length = L.length - k := by simp
  refine evx_bind (iStepsX hc (by omega)) fun t8 e8 => ?_
  rw [hM2] at e8
  have h3 := runB_shift (L := L) (M := (L.drop k).take (L.length - k)) (L.length - k) (0 + k) 0 c (by omega) (by omega) (fun q hq => by
    rw [Nat.zero_add, Nat.zero_add, getD_take _ _ _ _ hq, getD_drop])
  rw [← h2] at h3
  rw [h3] at e8
  subst e8
  refine evx_pos (by simp) (evx_pos ?_ ?_)
  · rw [m64i (by omega) (by omega)]; simp only; omega
  · refine evx_bind (sameX (small_run L L.length 0 hs)) fun t9 e9 => ?_
    exact evx_some e9
end Go.Proofs.Ytklkhnomnanpoaa.M2.Mp
namespace Go.Proofs.Ytklkhnomnanpoaa.Pure
open Go.Proofs.Ytklkhnomnanpoaa.M2
theorem FnSteps (l : List Int) (_ : ∀ n ∈ l, (Go.Lit.int .u8 n).wf = true) : ∃ k, laws_FnSteps.f k l = some true := Mp.evx_out (Mp.fnStepsX l)
end Go.Proofs.Ytklkhnomnanpoaa.Pure

/- From a function's contract to a call of it from without: what it answers; what was there stays. -/
namespace Go.Proofs.Ytklkhnomnanpoaa.M2
open Go Go.RowKit
set_option linter.unusedVariables false
section
variable {Ty : Type} {D : Ty → Type} {P : Program} {K : Kit Ty D}
theorem hp0 (k : Nat) : hpOf ([] : List (Blk Ty D)) k = none := rfl
theorem blk0 (nm : Nm) : blkAt K (hpOf ([] : List (Blk Ty D))) nm = none := by
  unfold blkAt; cases nm.sub <;> rfl
theorem own0 (γ : Nm → Hdr) (g : Nat) (nm : Nm) : ¬ Own K (hpOf ([] : List (Blk Ty D))) γ g nm := by
  rintro ⟨⟨b, hb⟩, _⟩; rw [blk0] at hb; cases hb
/-- The memory of a call from without. -/
def Out (Ty : Type) (D : Ty → Type) (w : World) : Mem Ty D := ⟨w, fun _ g => g < w.heap.size, hpOf [], fun _ => (none, 0), (· < ([] : List (Blk Ty D)).length)⟩
theorem top {f : FuncId} {ins : List (AV Ty D)} {v : Value} (h : Contract P K f ins [] (.sc v) [] []) (w : World) (args : Array Value) (hsz : args.size = ins.length)
    (ha : ∀ (k : Nat) u x, args[k]? = some u → ins[k]? = some x → x ≠ .dd ∧ Va K (Out Ty D w) u x) : Calls P f args w fun e w' => e = .returned v ∧ Below w.heap.size w w' := by
  have hl : Lay K (Out Ty D w) := by
    refine ⟨fun nm b hb => ?_, fun g nm nm' h => (own0 _ _ _ h).elim, fun g hg => hg, fun g hg => ⟨hg, fun nm => own0 _ _ _⟩, fun id b hb => ?_⟩
    · rw [show blkAt K (Out Ty D w).H nm = none from blk0 nm] at hb; cases hb
    · cases hb
  refine (h.2.2 w (fun _ g => g < w.heap.size) (fun _ => (none, 0)) args hl (fun g hg _ => hg) hsz ha).mono fun e w' he => ?_
  obtain ⟨u, γ', he, _, _, hv, hk, _⟩ := he
  have hu : u = v := hv.1
  exact ⟨by rw [he, hu], hk.os, hk.tape, hk.output, hk.size, fun k hk' => hk.block k hk' (fun ⟨nm, ho⟩ => own0 _ _ _ ho)⟩
/-- A row of scalars that was there. -/
theorem fz_flat {w : World} {t : Ty} {l : List (D t)} {n : D t → Value} (hc : K.cells t = 1) (he : ∀ x, K.emb t x = [.sc (n x)]) (hs : ∀ x, scalar (n x) = true) {g o c len : Nat} (hg : g < w.heap.size) (hl : l.length = len) (hle : len ≤ c)
    (hcell : ∀ (i : Nat) x, l[i]? = some x → w.cell? ⟨g, o + i, none⟩ = some (n x)) (q : Nat) : Fz K w (fun g => g < w.heap.size) (.slice (some ⟨g, o, none⟩) len c) (.row q t l) := by
  subst hl
  refine ⟨1, _, _, rfl, hle, .inr ⟨g, o, rfl, hg, fun i x hx j cc hj => ?_⟩⟩
  rw [he] at hj
  cases j with
  | succ j => simp at hj
  | zero =>
    simp at hj; subst hj
    refine ⟨n x, ?_, rfl, hs x⟩
    rw [hc, ← hcell i x hx]; congr 2; omega
theorem fz_nil {w : World} {S : Nat → Prop} {t : Ty} {a : Option Addr} {c : Nat} (q : Nat) : Fz K w S (.slice a 0 c) (.row q t []) := ⟨1, a, c, rfl, Nat.zero_le _, .inl rfl⟩
end
end Go.Proofs.Ytklkhnomnanpoaa.M2

/- The law FnSteps holds, for every input: from its function's contract and the plain statement of what it answers. -/
namespace Go.Proofs.Ytklkhnomnanpoaa.fnSteps
set_option linter.unusedVariables false
set_option linter.unusedSimpArgs false
open Go Go.ChangeShapes Go.WideShapes Go.ChangeAt Go.RowKit
open Go.Proofs.Ytklkhnomnanpoaa.M2 (top fz_nil fz_flat Fz Va Vc Out kit AV Ty D Contract)
theorem own : ownKnob Try.prog.godebug = none := by kernel_rfl
theorem laidOut : laidOutB Try.prog = true := by kernel_rfl
/-- Bytes that were there. -/
theorem bytes {H : Type} {enc : TypeId × Value → H} {W : World} {fuel : Nat} {v : Value} {x : DataW H × List MemPlace} (h : DataW.trod enc Try.prog W 0 (fun _ => true) true fuel 69 v.cells.toList = some x) {a : Option Addr} {len cap : Nat} (hv : v = .slice a len cap) :
    ∃ l : List Int, (∀ n ∈ l, (Lit.int .u8 n).wf = true) ∧ Fz kit W (fun g => g < W.heap.size) v (.row 0 .t5 l) := by
  subst hv
  rcases open_ints Try.underlying69 Try.underlying5 (by kernel_rfl) h with ⟨hcs, _⟩ | ⟨y, l, c, zs, hcs, _, hl, hm, hz, _, hcell, hwz⟩
  · simp [Value.cells] at hcs
    obtain ⟨rfl, rfl, rfl⟩ := hcs
    exact ⟨[], by simp, fz_nil 0⟩
  · simp [Value.cells] at hcs
    obtain ⟨rfl, rfl, rfl⟩ := hcs
    have hz : zs.length = cap := by simpa using hz
    refine ⟨zs.take len, fun n hn => hwz n (List.mem_of_mem_take hn), ?_⟩
    have hlen : (zs.take len).length = len := by rw [List.length_take]; omega
    cases len with
    | zero => rw [List.take_zero]; exact fz_nil 0
    | succ m =>
      have h0 := hcell 0 (by omega)
      have hsp : y.spot = none := by
        have := World.cell?_spot h0
        simpa [Addr.add] using this
      obtain ⟨g, o, sp⟩ := y
      simp only at hsp
      subst hsp
      have hadd : ∀ j, (⟨g, o, none⟩ : Addr).add j = ⟨g, o + j, none⟩ := fun j => by unfold Addr.add; split <;> simp_all
      have hg : g < W.heap.size := by
        rw [hadd] at h0
        unfold World.cell? at h0
        rcases Nat.lt_or_ge g W.heap.size with h | h
        · exact h
        · simp [Array.getElem?_eq_none h] at h0
      have key := fz_flat (K := kit) (w := W) (t := .t5) (l := zs.take (m + 1)) (n := fun x : Int => .int .u8 x) rfl (fun x => rfl) (fun x => rfl) (g := g) (o := o) (c := cap) (len := m + 1) hg hlen (by omega) (fun i (x : Int) (hx : (List.take (m + 1) zs : List Int)[i]? = some x) => by
        have hx : (List.take (m + 1) zs : List Int)[i]? = some x := hx
        have hi : i < (zs.take (m + 1)).length := (List.getElem?_eq_some_iff.1 hx).1
        rw [← hadd, hcell i (by rw [hlen] at hi; omega)]
        rw [List.getElem?_take] at hx
        split at hx
        · have hx : zs[i]? = some x := hx
          congr 2
          rw [List.getD_eq_getElem?_getD, hx]; rfl
        · cases hx) 0
      exact key
set_option maxRecDepth 100000 in
theorem lifted (os : Os) (started : os.Started) (H : Type) (enc : TypeId × Value → H) :
    ReturnsInHanded {} Try.checked os 6 .any (Rows.fnStepsSpec.pre6 enc Try.prog Try.f6 Rows.fnStepsRow.domain false) (Rows.fnStepsSpec.post enc Try.prog Try.f6 false true false false) := by
  refine returnsInHanded_of_change_sized (C := Try.checked) own started (by kernel_rfl) Try.func6
    (ChangeSpec.witness6 (enc := enc) (C := Try.checked) false ⟨#[], #[.slice none 0 0], []⟩ 8 (by kernel_rfl) (by kernel_rfl) (by kernel_rfl) (by kernel_rfl)) ?_
  intro W base args ds gs before hval0 hW hcnd hsz0 _
  have hval : ∀ (j : Nat) t v, Try.f6.params[j]? = some t → args[j]? = some v → Value.okWide Try.prog W .any base t v := hval0
  have hW' := hW
  obtain ⟨p, q, hA0, hV, rfl, hfz, hnd⟩ := hW
  have hA : DataW.TrodAll enc Try.prog W 0 (fun _ => true) true Try.f6.params.toList args.toList ds p := hA0
  rw [Try.params6] at hA hval
  obtain ⟨v0, vs0, d0, ds0, p0, q0, hargs, rfl, rfl, h0, r0⟩ := trodAll_cons hA
  obtain ⟨rfl, rfl, rfl⟩ := trodAll_nil r0
  obtain rfl : args = #[v0] := by cases args; simp_all
  obtain ⟨rfl, rfl⟩ := trodVars_none hV
  obtain ⟨a0, len0, cap0, e0⟩ := okWide_slice Try.underlying69 (hval 0 69 v0 rfl rfl)
  have k0 := h0
  have lt0 : ∀ x ∈ p0, x.block < W.heap.size := by obtain ⟨m, hm⟩ := k0; exact DataW.trod_lt m _ _ _ hm
  obtain ⟨l, wl, fz⟩ : ∃ l : List Int, (∀ n ∈ l, (Lit.int .u8 n).wf = true) ∧ Fz kit W (fun g => g < W.heap.size) v0 (.row 0 .t5 l) := by
    obtain ⟨fuel, hf⟩ := h0
    exact bytes hf e0
  clear hA0 hval0 hsz0
  obtain ⟨k, hp⟩ := Pure.FnSteps l wl
  have con : Contract Try.prog kit 6 [.row 0 .t5 l] [] (.sc (.bool true)) [] [] := M2.laws_FnSteps.con k l true hp
  refine (top con W #[v0] rfl (fun j u x hu hx => by
    cases j with
    | succ j => simp at hu
    | zero =>
      have hu : v0 = u := by simpa using hu
      have hx : (.row 0 .t5 l : AV Ty D) = x := by simpa using hx
      subst hu hx
      exact ⟨by simp, fz⟩)).mono fun e W' ⟨he, bel⟩ => ?_
  subst he
  exact ⟨_, rfl, _, _, _, [], _, [], hW', trodAll_mk1 (shut_bool Try.underlying4 _), (trodAll_cons_mk (Below.trod laidOut (by kernel_rfl) (of_decide_eq_true (by kernel_rfl)) k0 bel lt0) trodAll_mk0), rfl, bel.frame _, fun h => by cases h⟩
theorem over : Rows.fnStepsRow.holds Try.pinned (OpenSpec.ofChange Rows.fnStepsSpec) :=
  OpenClaim.holds_of_wide 6 Try.f6 rfl rfl rfl rfl rfl rfl rfl ⟨rfl, rfl, rfl, rfl, rfl⟩ rfl rfl rfl rfl rfl (by kernel_rfl) Try.func6 (by kernel_rfl)
    (of_decide_eq_true (by kernel_rfl)) (by unfold Func.isWrapper; first | (rw [if_pos (by decide +kernel)]; kernel_rfl) | (rw [if_neg (by decide +kernel)]; exact ⟨rfl, rfl⟩))
    (fun os started H enc _ => lifted os started H enc)
end Go.Proofs.Ytklkhnomnanpoaa.fnSteps
namespace Go.Proofs.Ytklkhnomnanpoaa
/-- The row, under a short name, for the claim. -/
theorem fnSteps_holds : Rows.FnStepsSaid := fnSteps.over
end Go.Proofs.Ytklkhnomnanpoaa
