/- FnStores: functions of the translation as Lean functions with what their calls come to, plain lemmas on them, and, at the end, the row. Parts of one proof, merged by a program of this session; each part's own sentence stands at its head. -/
import Derived.Below
import Derived.Test.YteideicglgpfiaaRows
import Derived.WalkKit
import Derived.ProofKit
import Derived.OpenShut
import Derived.ShutString
import Derived.ChangeOld
import Derived.SizedLaws
import Derived.ChangeSlices
import Derived.Test.YteideicglgpfiaaMFnStorese
/- The law FnStores: a drawn record entered into a drawn store: both packages answer alike, and what is there behind it. -/
namespace Go.Proofs.Yteideicglgpfiaa.M2.Mp
set_option linter.unusedVariables false
set_option linter.unusedSimpArgs false
open Go.RowKit Go.Proofs.Yteideicglgpfiaa.PK Go.Proofs.YteideicglgpfiaaW.PrintWords Go.Proofs.Yteideicglgpfiaa.Pu

theorem iChunkX (v : List S53) (a : List S88) (n id s : Int) (hv : v.length ≤ 1048576) (ha : a.length ≤ 1048576) : EvX (fun k => impl_ChunkOf.f k v a n id s) (fun r => r = chunkB v a id s) :=
  ⟨_, ev_rel (iChunkOf_ev v a n id s hv (by omega)) (fun k r hh m hm => impl_ChunkOf.rel k v a n id s r hh m hm), rfl⟩
theorem fnStoresX (b : List Int) : EvX (fun k => laws_FnStores.f k b) (fun r => r = true) := by
  simp only [laws_FnStores.f]
  refine evx_bind (bigX b) fun t ht => ?_
  refine evx_ite (fun _ => evx_some rfl) (fun hbig => ?_)
  have hlen : b.length ≤ 1048576 := by
    rw [ht] at hbig
    simp only [decide_eq_true_eq] at hbig
    omega
  have hb : Cb b := by show b.length ≤ _; omega
  refine evx_bind (storeRecI b hb) fun t2 ⟨⟨hR, ha⟩, hrec⟩ => ?_
  obtain ⟨v, a, n, t, w, s, c⟩ := t2
  have hR : Inv v a n := hR
  have ha : a.length ≤ 28 := ha
  have hv := (right_sz hR.1).1
  have hx := (right_sz hR.1).2
  obtain ⟨hh, hf⟩ := right_iff.1 hR.1
  refine evx_bind (iEnterX v a n t w s c (by omega) (by omega) hx) fun t3 e3 => ?_
  refine evx_bind (enterX v a n t w s c (by omega) (by omega) hx) fun t4 e4 => ?_
  unfold entR at e3 e4
  cases e : enterB v a n t w s c with
  | none =>
    rw [e] at e3 e4
    subst e3
    subst e4
    refine evx_pos (by simp) ?_
    refine evx_bind (iSameX v a n v a n (by omega) (by omega) (by omega)) fun t5 e5 => evx_pos (by rw [e5]; exact same_refl _ _ _) ?_
    refine evx_bind (iStoreOkX v a n (by omega) (by omega) hx) fun t6 e6 => evx_pos (by rw [e6]; exact hR.1) ?_
    refine evx_bind (iStoreOkX v a n (by omega) (by omega) hx) fun t7 e7 => evx_pos (by rw [e7]; exact hR.1) ?_
    refine evx_neg (by simp) ?_
    exact evx_bind (iSameX v a n v a n (by omega) (by omega) (by omega)) fun t8 e8 => evx_some (by rw [e8]; exact same_refl _ _ _)
  | some q =>
    obtain ⟨v', a', n'⟩ := q
    rw [e] at e3 e4
    subst e3
    subst e4
    have hq := enter_right e
    have hv' := (right_sz hq.1).1
    have hx' := (right_sz hq.1).2
    have ha' : a'.length ≤ 30 := by omega
    obtain ⟨_, hok, hcase⟩ := enter_cases e
    refine evx_pos (by simp) ?_
    refine evx_bind (iSameX v' a' n' v' a' n' (by omega) (by omega) (by omega)) fun t5 e5 => evx_pos (by rw [e5]; exact same_refl _ _ _) ?_
    refine evx_bind (iStoreOkX v a n (by omega) (by omega) hx) fun t6 e6 => evx_pos (by rw [e6]; exact hR.1) ?_
    refine evx_bind (iStoreOkX v' a' n' (by omega) (by omega) hx') fun t7 e7 => evx_pos (by rw [e7]; exact hq.1) ?_
    refine evx_pos rfl ?_
    rcases hcase with ⟨k1, k2⟩ | ⟨k1, k2, k3, k4, k5⟩ | ⟨j, j1, j2, k1, k2⟩ | ⟨j, j1, j2, k1, k2, k3, k4, k5⟩
    · refine evx_neg (by show ¬ t = 4; omega) (evx_neg (by show ¬ t = 5; omega) (evx_neg (by show ¬ t = 3; omega) (evx_neg (by show ¬ t = 2; omega) (evx_some ?_))))
      injection k2 with k2
      rw [k2]; rfl
    · refine evx_neg (by show ¬ t = 4; omega) (evx_neg (by show ¬ t = 5; omega) (evx_neg (by show ¬ t = 3; omega) (evx_pos k1 ?_)))
      injection k5 with e1 e2
      injection e2 with e2 e3
      have e2 := e2.symm
      have e3 := e3.symm
      subst e1 e2 e3
      have hhI := (right_iff.1 hq.1).1
      have hil := insV_len (v := v) (x := ⟨w, rootOf v s⟩) (volB_none k2)
      have hrec2 := recOk_range hok
      have main : ∀ (d i : Nat), i + d = 16 → EvX (fun k => laws_FnStores.c19 k (i : Int) v a n t w s c (insV v ⟨w, rootOf v s⟩) a n) (fun r => r = true) := by
        intro d
        induction d with
        | zero =>
          intro i hi
          refine evx_step (fun k => by rw [laws_FnStores.c19]) (evx_neg (by omega) (evx_some ?_))
          rw [m64i (by omega) (by omega)]
          exact decide_eq_true (by omega)
        | succ d ih =>
          intro i hi
          have ih2 := ih (i + 1) (by omega)
          rw [← m64 (i := i) (n := 16) (by omega) (by omega)] at ih2
          have hc1 : chunkB (insV v ⟨w, rootOf v s⟩) a w (i : Int) = getB a (rootOf v s) (i : Int) := ins_chunk hhI (i : Int)
          refine evx_step (fun k => by rw [laws_FnStores.c19]) (evx_pos (by omega) ?_)
          refine evx_ite (fun hs => ?_) (fun hs => ?_)
          · have hc2 := root_chunk hh hs (fun g => k3 ⟨hs, g⟩) (i : Int)
            refine evx_bind (iChunkX _ a n w (i : Int) (by omega) (by omega)) fun t11 e11 => ?_
            refine evx_bind (iChunkX v a n s (i : Int) (by omega) (by omega)) fun t12 e12 => evx_pos (by rw [e11, e12, hc1, hc2]) ?_
            exact evx_neg (by omega) ih2
          · refine evx_pos (by omega) ?_
            refine evx_bind (iChunkX _ a n w (i : Int) (by omega) (by omega)) fun t14 e14 => evx_pos ?_ ih2
            rw [e14, hc1]
            unfold rootOf
            rw [if_neg hs]
            exact get_none rfl
      exact main 16 0 (by omega)
    · refine evx_neg (by show ¬ t = 4; omega) (evx_neg (by show ¬ t = 5; omega) (evx_pos k1 (evx_some ?_)))
      injection k2 with e1 e2
      have hl : v'.length + 1 = v.length := by
        rw [e1]
        unfold sweptV
        rw [zipR_len, List.length_append, List.length_take, List.length_drop]; omega
      show decide (M2.w64 ((v'.length : Int) + 1) = (v.length : Int)) = true
      rw [m64i (by omega) (by omega)]
      exact decide_eq_true (by omega)
    · injection k5 with e1 e2
      injection e2 with e2 e3
      have hch := put_chunk hh j1 k2 k3 k4 s k2
      rw [if_pos rfl, j2] at hch
      refine evx_ite (fun k6 => ?_) (fun k6 => ?_)
      · refine evx_bind (iChunkX v' a' n' w s (by omega) (by omega)) fun t9 e9 => evx_pos ?_ (evx_pos ?_ (evx_some ?_))
        · rw [e9, e1, e2, hch]
        · show n' > c
          rw [e3]; split <;> omega
        · show decide (n' ≥ n) = true
          rw [e3]
          exact decide_eq_true (by split <;> omega)
      · have hc0 : c = 0 := by
          rcases k1 with k1 | k1
          · exact absurd k1 k6
          · exact k1.2
        refine evx_pos (by show t = 5; have k6 : ¬ t = 4 := k6; omega) ?_
        refine evx_bind (iChunkX v' a' n' w s (by omega) (by omega)) fun t10 e10 => evx_some ?_
        rw [e10, e1, e2, hch, hc0]; rfl
end Go.Proofs.Yteideicglgpfiaa.M2.Mp
namespace Go.Proofs.Yteideicglgpfiaa.Pure
open Go.Proofs.Yteideicglgpfiaa.M2
theorem FnStores (l : List Int) (_ : ∀ n ∈ l, (Go.Lit.int .u8 n).wf = true) : ∃ k, laws_FnStores.f k l = some true := Mp.evx_out (Mp.fnStoresX l)
end Go.Proofs.Yteideicglgpfiaa.Pure

/- From a function's contract to a call of it from without: what it answers; what was there stays. -/
namespace Go.Proofs.Yteideicglgpfiaa.M2
open Go Go.RowKit
set_option linter.unusedVariables false
section
variable {Ty : Type} {D : Ty → Type} {P : Program} {K : Kit Ty D}
theorem hp0 (k : Nat) : hpOf ([] : List (Blk Ty D)) k = none := rfl
theorem blk0 (nm : Nm) : blkAt K (hpOf ([] : List (Blk Ty D))) nm = none := by
  unfold blkAt; cases nm.sub <;> rfl
theorem own0 (γ : Nm → Hdr) (g : Nat) (nm : Nm) : ¬ Own K (hpOf ([] : List (Blk Ty D))) γ g nm := by
  rintro ⟨⟨b, hb⟩, _⟩; rw [blk0] at hb; cases hb
/-- The memory of a call from without. -/
def Out (Ty : Type) (D : Ty → Type) (w : World) : Mem Ty D := ⟨w, fun _ g => g < w.heap.size, hpOf [], fun _ => (none, 0), (· < ([] : List (Blk Ty D)).length)⟩
theorem top {f : FuncId} {ins : List (AV Ty D)} {v : Value} (h : Contract P K f ins [] (.sc v) [] []) (w : World) (args : Array Value) (hsz : args.size = ins.length)
    (ha : ∀ (k : Nat) u x, args[k]? = some u → ins[k]? = some x → x ≠ .dd ∧ Va K (Out Ty D w) u x) : Calls P f args w fun e w' => e = .returned v ∧ Below w.heap.size w w' := by
  have hl : Lay K (Out Ty D w) := by
    refine ⟨fun nm b hb => ?_, fun g nm nm' h => (own0 _ _ _ h).elim, fun g hg => hg, fun g hg => ⟨hg, fun nm => own0 _ _ _⟩, fun id b hb => ?_⟩
    · rw [show blkAt K (Out Ty D w).H nm = none from blk0 nm] at hb; cases hb
    · cases hb
  refine (h.2.2 w (fun _ g => g < w.heap.size) (fun _ => (none, 0)) args hl (fun g hg _ => hg) hsz ha).mono fun e w' he => ?_
  obtain ⟨u, γ', he, _, _, hv, hk, _⟩ := he
  have hu : u = v := hv.1
  exact ⟨by rw [he, hu], hk.os, hk.tape, hk.output, hk.size, fun k hk' => hk.block k hk' (fun ⟨nm, ho⟩ => own0 _ _ _ ho)⟩
/-- A row of scalars that was there. -/
theorem fz_flat {w : World} {t : Ty} {l : List (D t)} {n : D t → Value} (hc : K.cells t = 1) (he : ∀ x, K.emb t x = [.sc (n x)]) (hs : ∀ x, scalar (n x) = true) {g o c len : Nat} (hg : g < w.heap.size) (hl : l.length = len) (hle : len ≤ c)
    (hcell : ∀ (i : Nat) x, l[i]? = some x → w.cell? ⟨g, o + i, none⟩ = some (n x)) (q : Nat) : Fz K w (fun g => g < w.heap.size) (.slice (some ⟨g, o, none⟩) len c) (.row q t l) := by
  subst hl
  refine ⟨1, _, _, rfl, hle, .inr ⟨g, o, rfl, hg, fun i x hx j cc hj => ?_⟩⟩
  rw [he] at hj
  cases j with
  | succ j => simp at hj
  | zero =>
    simp at hj; subst hj
    refine ⟨n x, ?_, rfl, hs x⟩
    rw [hc, ← hcell i x hx]; congr 2; omega
theorem fz_nil {w : World} {S : Nat → Prop} {t : Ty} {a : Option Addr} {c : Nat} (q : Nat) : Fz K w S (.slice a 0 c) (.row q t []) := ⟨1, a, c, rfl, Nat.zero_le _, .inl rfl⟩
end
end Go.Proofs.Yteideicglgpfiaa.M2

/- The law FnStores holds, for every input: from its function's contract and the plain statement of what it answers. -/
namespace Go.Proofs.Yteideicglgpfiaa.fnStores
set_option linter.unusedVariables false
set_option linter.unusedSimpArgs false
open Go Go.ChangeShapes Go.WideShapes Go.ChangeAt Go.RowKit
open Go.Proofs.Yteideicglgpfiaa.M2 (top fz_nil fz_flat Fz Va Vc Out kit AV Ty D Contract)
theorem own : ownKnob Try.prog.godebug = none := by kernel_rfl
theorem laidOut : laidOutB Try.prog = true := by kernel_rfl
/-- Bytes that were there. -/
theorem bytes {H : Type} {enc : TypeId × Value → H} {W : World} {fuel : Nat} {v : Value} {x : DataW H × List MemPlace} (h : DataW.trod enc Try.prog W 0 (fun _ => true) true fuel 45 v.cells.toList = some x) {a : Option Addr} {len cap : Nat} (hv : v = .slice a len cap) :
    ∃ l : List Int, (∀ n ∈ l, (Lit.int .u8 n).wf = true) ∧ Fz kit W (fun g => g < W.heap.size) v (.row 0 .t5 l) := by
  subst hv
  rcases open_ints Try.underlying45 Try.underlying5 (by kernel_rfl) h with ⟨hcs, _⟩ | ⟨y, l, c, zs, hcs, _, hl, hm, hz, _, hcell, hwz⟩
  · simp [Value.cells] at hcs
    obtain ⟨rfl, rfl, rfl⟩ := hcs
    exact ⟨[], by simp, fz_nil 0⟩
  · simp [Value.cells] at hcs
    obtain ⟨rfl, rfl, rfl⟩ := hcs
    have hz : zs.length = cap := by simpa using hz
    refine ⟨zs.take len, fun n hn => hwz n (List.mem_of_mem_take hn), ?_⟩
    have hlen : (zs.take len).length = len := by rw [List.length_take]; omega
    cases len with
    | zero => rw [List.take_zero]; exact fz_nil 0
    | succ m =>
      have h0 := hcell 0 (by omega)
      have hsp : y.spot = none := by
        have := World.cell?_spot h0
        simpa [Addr.add] using this
      obtain ⟨g, o, sp⟩ := y
      simp only at hsp
      subst hsp
      have hadd : ∀ j, (⟨g, o, none⟩ : Addr).add j = ⟨g, o + j, none⟩ := fun j => by unfold Addr.add; split <;> simp_all
      have hg : g < W.heap.size := by
        rw [hadd] at h0
        unfold World.cell? at h0
        rcases Nat.lt_or_ge g W.heap.size with h | h
        · exact h
        · simp [Array.getElem?_eq_none h] at h0
      have key := fz_flat (K := kit) (w := W) (t := .t5) (l := zs.take (m + 1)) (n := fun x : Int => .int .u8 x) rfl (fun x => rfl) (fun x => rfl) (g := g) (o := o) (c := cap) (len := m + 1) hg hlen (by omega) (fun i (x : Int) (hx : (List.take (m + 1) zs : List Int)[i]? = some x) => by
        have hx : (List.take (m + 1) zs : List Int)[i]? = some x := hx
        have hi : i < (zs.take (m + 1)).length := (List.getElem?_eq_some_iff.1 hx).1
        rw [← hadd, hcell i (by rw [hlen] at hi; omega)]
        rw [List.getElem?_take] at hx
        split at hx
        · have hx : zs[i]? = some x := hx
          congr 2
          rw [List.getD_eq_getElem?_getD, hx]; rfl
        · cases hx) 0
      exact key
set_option maxRecDepth 100000 in
theorem lifted (os : Os) (started : os.Started) (H : Type) (enc : TypeId × Value → H) :
    ReturnsInHanded {} Try.checked os 5 .any (Rows.fnStoresSpec.pre6 enc Try.prog Try.f5 Rows.fnStoresRow.domain false) (Rows.fnStoresSpec.post enc Try.prog Try.f5 false true false false) := by
  refine returnsInHanded_of_change_sized (C := Try.checked) own started (by kernel_rfl) Try.func5
    (ChangeSpec.witness6 (enc := enc) (C := Try.checked) false ⟨#[], #[.slice none 0 0], []⟩ 8 (by kernel_rfl) (by kernel_rfl) (by kernel_rfl) (by kernel_rfl)) ?_
  intro W base args ds gs before hval0 hW hcnd hsz0 _
  have hval : ∀ (j : Nat) t v, Try.f5.params[j]? = some t → args[j]? = some v → Value.okWide Try.prog W .any base t v := hval0
  have hW' := hW
  obtain ⟨p, q, hA0, hV, rfl, hfz, hnd⟩ := hW
  have hA : DataW.TrodAll enc Try.prog W 0 (fun _ => true) true Try.f5.params.toList args.toList ds p := hA0
  rw [Try.params5] at hA hval
  obtain ⟨v0, vs0, d0, ds0, p0, q0, hargs, rfl, rfl, h0, r0⟩ := trodAll_cons hA
  obtain ⟨rfl, rfl, rfl⟩ := trodAll_nil r0
  obtain rfl : args = #[v0] := by cases args; simp_all
  obtain ⟨rfl, rfl⟩ := trodVars_none hV
  obtain ⟨a0, len0, cap0, e0⟩ := okWide_slice Try.underlying45 (hval 0 45 v0 rfl rfl)
  have k0 := h0
  have lt0 : ∀ x ∈ p0, x.block < W.heap.size := by obtain ⟨m, hm⟩ := k0; exact DataW.trod_lt m _ _ _ hm
  obtain ⟨l, wl, fz⟩ : ∃ l : List Int, (∀ n ∈ l, (Lit.int .u8 n).wf = true) ∧ Fz kit W (fun g => g < W.heap.size) v0 (.row 0 .t5 l) := by
    obtain ⟨fuel, hf⟩ := h0
    exact bytes hf e0
  clear hA0 hval0 hsz0
  obtain ⟨k, hp⟩ := Pure.FnStores l wl
  have con : Contract Try.prog kit 5 [.row 0 .t5 l] [] (.sc (.bool true)) [] [] := M2.laws_FnStores.con k l true hp
  refine (top con W #[v0] rfl (fun j u x hu hx => by
    cases j with
    | succ j => simp at hu
    | zero =>
      have hu : v0 = u := by simpa using hu
      have hx : (.row 0 .t5 l : AV Ty D) = x := by simpa using hx
      subst hu hx
      exact ⟨by simp, fz⟩)).mono fun e W' ⟨he, bel⟩ => ?_
  subst he
  exact ⟨_, rfl, _, _, _, [], _, [], hW', trodAll_mk1 (shut_bool Try.underlying4 _), (trodAll_cons_mk (Below.trod laidOut (by kernel_rfl) (of_decide_eq_true (by kernel_rfl)) k0 bel lt0) trodAll_mk0), rfl, bel.frame _, fun h => by cases h⟩
theorem over : Rows.fnStoresRow.holds Try.pinned (OpenSpec.ofChange Rows.fnStoresSpec) :=
  OpenClaim.holds_of_wide 5 Try.f5 rfl rfl rfl rfl rfl rfl rfl ⟨rfl, rfl, rfl, rfl, rfl⟩ rfl rfl rfl rfl rfl (by kernel_rfl) Try.func5 (by kernel_rfl)
    (of_decide_eq_true (by kernel_rfl)) (by unfold Func.isWrapper; first | (rw [if_pos (by decide +kernel)]; kernel_rfl) | (rw [if_neg (by decide +kernel)]; exact ⟨rfl, rfl⟩))
    (fun os started H enc _ => lifted os started H enc)
end Go.Proofs.Yteideicglgpfiaa.fnStores
namespace Go.Proofs.Yteideicglgpfiaa
/-- The row, under a short name, for the claim. -/
theorem fnStores_holds : Rows.FnStoresSaid := fnStores.over
end Go.Proofs.Yteideicglgpfiaa
