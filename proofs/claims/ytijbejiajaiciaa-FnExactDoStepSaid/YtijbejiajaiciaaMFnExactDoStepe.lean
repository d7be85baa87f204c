/- FnExactDoStep: functions of the translation as Lean functions with what their calls come to, plain lemmas on them, and, at the end, the row. Parts of one proof, merged by a program of this session; each part's own sentence stands at its head. -/
import Derived.ChangeArms
import Derived.DataReads
import Derived.Test.YtijbejiajaiciaaRows
import Derived.WalkKit
import Derived.ProofKit
import Derived.OpenShut
import Derived.ShutString
import Derived.ChangeOld
import Derived.Below
import Derived.SizedLaws
import Derived.Test.YtijbejiajaiciaaMFnExactDoStepd
/- What a law's arguments, read as data, are as the print's kinds. -/
namespace Go.Proofs.Ytijbejiajaiciaa.Open
open Go.RowKit Go.Proofs.YtijbejiajaiciaaW.PrintWords

/-- A datum that is read at type t is of kind d, and each such y meets wf. -/
def Opn {α : Type} (P : Program) (t : TypeId) (d : Kd α) (wf : α → Prop) : Prop :=
  ∀ (H : Type) (enc : TypeId × Value → H) (w : World) (base : Nat) (spare : Nat → Bool) (held : Bool) (fuel : Nat) (cs : List Value) (x : DataW H × List MemPlace),
    DataW.trod enc P w base spare held fuel t cs = some x → ∃ y : α, d.K w y cs ∧ wf y

theorem opn_int {P : Program} {t : TypeId} {k : IntKind} (hu : P.underlying t = some (.int k)) : Opn P t (Kd.int k) (fun n => (Lit.int k n).wf = true) := by
  intro H enc w base spare held fuel cs x h
  obtain ⟨n, rfl, _, hw⟩ := DataW.trod_int hu h
  exact ⟨n, rfl, hw⟩
theorem opn_bool {P : Program} {t : TypeId} (hu : P.underlying t = some .bool) : Opn P t Kd.bool (fun _ => True) := by
  intro H enc w base spare held fuel cs x h
  obtain ⟨n, rfl, _⟩ := DataW.trod_bool hu h
  exact ⟨n, rfl, trivial⟩
theorem opn_string {P : Program} {t : TypeId} (hu : P.underlying t = some .string) : Opn P t Kd.string (fun s => s.size ≤ maxLen) := by
  intro H enc w base spare held fuel cs x h
  obtain ⟨n, rfl, _, hw⟩ := DataW.trod_string hu h
  exact ⟨n, rfl, hw⟩
theorem choose_list {α : Type} {Q : Nat → α → Prop} : ∀ (n : Nat), (∀ i, i < n → ∃ y, Q i y) → ∃ ys : List α, ys.length = n ∧ ∀ i y, ys[i]? = some y → Q i y
  | 0, _ => ⟨[], rfl, fun i y h => by simp at h⟩
  | n + 1, h => by
    obtain ⟨ys, hl, hq⟩ := choose_list n (fun i hi => h i (by omega))
    obtain ⟨y, hy⟩ := h n (by omega)
    refine ⟨ys ++ [y], by simp [hl], fun i z hz => ?_⟩
    rcases Nat.lt_or_ge i ys.length with hi | hi
    · rw [List.getElem?_append_left hi] at hz
      exact hq i z hz
    · rw [List.getElem?_append_right hi] at hz
      have hi2 : i - ys.length = 0 := by
        have := (List.getElem?_eq_some_iff.1 hz).1
        simp at this
        omega
      rw [hi2] at hz
      have : i = n := by omega
      subst this
      simp at hz
      subst hz
      exact hy
theorem adds (a : Addr) (m n : Nat) : (a.add m).add n = a.add (m + n) := by
  unfold Addr.add
  by_cases h1 : m = 0 <;> by_cases h2 : n = 0 <;> simp_all [Nat.add_assoc]
theorem opn_slice {α : Type} {P : Program} {t e : TypeId} {d : Kd α} {wf : α → Prop} (hu : P.underlying t = some (.slice e)) (hc : P.cellsOf e = d.sz) (ho : Opn P e d wf) :
    Opn P t (Kd.slice e d) (fun xs => xs.length ≤ maxLen ∧ ∀ x ∈ xs, wf x) := by
  intro H enc w base spare held fuel cs x h
  rcases DataW.trod_slice hu h with ⟨rfl, _⟩ | ⟨a, len, cap, elems, rest, n, _, rfl, _, hb, hl, hm, hlen, hel, _, _⟩
  · refine ⟨[], ⟨none, 0, rfl, Nat.le_refl _, rfl, by simp, fun h0 => absurd h0 (by simp)⟩, by simp, fun x hx => absurd hx (by simp)⟩
  · have each : ∀ i, i < len → ∃ y : α, ∃ c : List Value, (c.length = d.sz ∧ d.K w y c ∧ ∀ j u, c[j]? = some u → w.cell? (a.add (i * d.sz + j)) = some u) ∧ wf y := by
      intro i hi
      have h1 := hel i hi
      rw [List.getElem?_eq_getElem (by omega), Option.bind_eq_some_iff, hc] at h1
      obtain ⟨c, h2, h3⟩ := h1
      obtain ⟨_, hcl, hcell⟩ := World.cells?_some h2
      obtain ⟨y, hk, hw⟩ := ho H enc w base spare held n c _ h3
      refine ⟨y, c, ⟨hcl, hk, fun j u hj => ?_⟩, hw⟩
      have hjl : j < c.length := (List.getElem?_eq_some_iff.1 hj).1
      rw [← adds, hcell j (by omega), hj]
    obtain ⟨ys, hyl, hys⟩ := choose_list len each
    have hml : len ≤ maxLen := Nat.le_trans hl hm
    refine ⟨ys, ⟨some a, cap, by rw [hyl], by rw [hyl]; exact hl, rfl, by rw [hyl]; simpa only [maxLen] using hml, fun _ => ⟨a, rfl, fun j p hj => ?_⟩⟩, by rw [hyl]; exact hml, fun y hy => ?_⟩
    · obtain ⟨c, hq, _⟩ := hys j p hj
      exact ⟨c, hq⟩
    · obtain ⟨j, hj, he⟩ := List.getElem_of_mem hy
      obtain ⟨_, _, hw⟩ := hys j y (by rw [List.getElem?_eq_getElem hj, he])
      exact hw

/-- The fields fs, read off the cells from off on, are of kind d. -/
def OpnF {α : Type} (P : Program) (fs : List Field) (off : Nat) (d : Kd α) (wf : α → Prop) : Prop :=
  ∀ (H : Type) (enc : TypeId × Value → H) (w : World) (base : Nat) (spare : Nat → Bool) (held : Bool) (fuel : Nat) (cs : List Value), cs.length = off + d.sz →
    (∀ f ∈ fs, ∃ x, DataW.trod enc P w base spare held fuel f.type ((cs.drop f.offset).take (P.cellsOf f.type)) = some x) → ∃ y : α, d.K w y (cs.drop off) ∧ wf y
theorem opnF_one {α : Type} {P : Program} {f : Field} {off : Nat} {d : Kd α} {wf : α → Prop} (hoff : f.offset = off) (hc : P.cellsOf f.type = d.sz) (ho : Opn P f.type d wf) : OpnF P [f] off d wf := by
  intro H enc w base spare held fuel cs hl h
  obtain ⟨x, hx⟩ := h f (by simp)
  obtain ⟨y, hk, hw⟩ := ho H enc w base spare held fuel _ x hx
  rw [hoff, hc, List.take_of_length_le (by rw [List.length_drop]; omega)] at hk
  exact ⟨y, hk, hw⟩
theorem opnF_cons {α β : Type} {P : Program} {f : Field} {fs : List Field} {off : Nat} {a : Kd α} {b : Kd β} {wa : α → Prop} {wb : β → Prop} (hoff : f.offset = off) (hc : P.cellsOf f.type = a.sz) (ho : Opn P f.type a wa) (hr : OpnF P fs (off + a.sz) b wb) :
    OpnF P (f :: fs) off (Kd.pair a b) (fun p => wa p.1 ∧ wb p.2) := by
  intro H enc w base spare held fuel cs hl h
  obtain ⟨x, hx⟩ := h f (by simp)
  obtain ⟨y, hk, hw⟩ := ho H enc w base spare held fuel _ x hx
  have hsz : (Kd.pair a b).sz = a.sz + b.sz := rfl
  obtain ⟨z, hk2, hw2⟩ := hr H enc w base spare held fuel cs (by omega) (fun g hg => h g (List.mem_cons_of_mem _ hg))
  rw [hoff, hc] at hk
  refine ⟨(y, z), ⟨(cs.drop off).take a.sz, cs.drop (off + a.sz), ?_, hk, hk2⟩, hw, hw2⟩
  rw [← List.drop_drop, List.take_append_drop]
theorem opn_tuple {α : Type} {P : Program} {t : TypeId} {fs : List Field} {d : Kd α} {wf : α → Prop} (hu : P.underlying t = some (.struct fs.toArray)) (hc : P.cellsOf t = d.sz) (ho : OpnF P fs 0 d wf) :
    Opn P t d wf := by
  intro H enc w base spare held fuel cs x h
  obtain ⟨xs, n, _, _, hl, hlen, hf⟩ := DataW.trod_struct hu h
  obtain ⟨y, hk, hw⟩ := ho H enc w base spare held n cs (by omega) (fun fl hfl => by
    obtain ⟨i, hi, he⟩ := List.getElem_of_mem hfl
    have h1 := hf i fl (by simpa using (List.getElem?_eq_getElem hi).trans (congrArg some he))
    have hlen2 : xs.length = fs.length := by simpa using hlen
    exact ⟨xs[i]'(by omega), by rw [h1, List.getElem?_eq_getElem]⟩)
  exact ⟨y, by simpa using hk, hw⟩
theorem opn_struct {α β : Type} {P : Program} {t : TypeId} {fs : List Field} {d : Kd α} {wf : α → Prop} (f : β → α) (g : α → β) (hfg : ∀ a, f (g a) = a) (hu : P.underlying t = some (.struct fs.toArray)) (hc : P.cellsOf t = d.sz) (ho : OpnF P fs 0 d wf) :
    Opn P t (Kd.iso d f) (fun y => wf (f y)) := by
  intro H enc w base spare held fuel cs x h
  obtain ⟨xs, n, _, _, hl, hlen, hf⟩ := DataW.trod_struct hu h
  obtain ⟨y, hk, hw⟩ := ho H enc w base spare held n cs (by omega) (fun fl hfl => by
    obtain ⟨i, hi, he⟩ := List.getElem_of_mem hfl
    have h1 := hf i fl (by simpa using (List.getElem?_eq_getElem hi).trans (congrArg some he))
    have hlen2 : xs.length = fs.length := by simpa using hlen
    exact ⟨xs[i]'(by omega), by rw [h1, List.getElem?_eq_getElem]⟩)
  exact ⟨g y, by show d.K w (f (g y)) cs; rw [hfg]; simpa using hk, by show wf (f (g y)); rw [hfg]; exact hw⟩
end Go.Proofs.Ytijbejiajaiciaa.Open

/- Plain facts on rounds, lists and whole numbers, for the pure statements. -/
namespace Go.Proofs.Ytijbejiajaiciaa.Pu
set_option linter.unusedVariables false
set_option linter.unusedSimpArgs false
open Go.RowKit Go.Proofs.YtijbejiajaiciaaW.PrintWords

theorem w64 {x : Int} (h1 : -9223372036854775808 ≤ x) (h2 : x ≤ 9223372036854775807) : wrap64 x = x := by
  unfold wrap64; omega
theorem wsucc {i n : Nat} (h : i < n) (hn : n ≤ 9223372036854775807) : wrap64 ((i : Int) + 1) = ((i + 1 : Nat) : Int) := by
  rw [w64 (by omega) (by omega)]; rfl
theorem wf_i64 {n : Int} (h : (Lit.int .i64 n).wf = true) : -9223372036854775808 ≤ n ∧ n ≤ 9223372036854775807 := by
  simp only [Lit.wf, Bool.and_eq_true, decide_eq_true_eq] at h
  have h1 : IntKind.min .i64 = -9223372036854775808 := by decide
  have h2 : IntKind.max .i64 = 9223372036854775807 := by decide
  omega

/-- Rounds: what is told, a step on. -/
theorem ev_some {α : Type} {g : Nat → Option α} {r : α} (h : ∀ k, g (k + 1) = some r) : Ev g r := Ev.step h (Ev.now r)
theorem ev_const {α : Type} {o : Option α} {r : α} (h : o = some r) : Ev (fun _ => o) r := ⟨0, fun _ _ => h⟩
theorem ev_bind {α β : Type} {g : Nat → Option α} {f : Nat → α → Option β} {a : α} {r : β} (h : Ev g a) (k : Ev (fun n => f n a) r) : Ev (fun n => (g n).bind (f n)) r := Ev.bind h k
theorem ev_uniq {α : Type} {g : Nat → Option α} {a b : α} (h : Ev g a) (k : Ev g b) : a = b := by
  obtain ⟨K, hK⟩ := h
  obtain ⟨M, hM⟩ := k
  have h1 := hK (max K M) (Nat.le_max_left _ _)
  rw [hM (max K M) (Nat.le_max_right _ _)] at h1
  injection h1 with h1
  exact h1.symm
theorem ev_ext {α : Type} {g f : Nat → Option α} {r : α} (h : ∀ k, g k = f k) (k : Ev f r) : Ev g r := Ev.congr h k

/-- A row that is made and filled, place by place. -/
theorem ev_fill {β : Type} {L : Nat → List β → Int → Option (List β)} {E : Nat → Int → Option β} {n : Nat} {e : Nat → β} (hn : n ≤ 9223372036854775807)
    (hs : ∀ k xs i, L (k + 1) xs i = if i < (n : Int) then (if 0 ≤ i then ((E k i).bind fun b => if i < (xs.length : Int) then L k (xs.set i.toNat b) (wrap64 (i + 1)) else none) else none) else some xs)
    (hE : ∀ i, i < n → Ev (fun k => E k (i : Int)) (e i)) :
    ∀ (d i : Nat) (xs : List β), xs.length = n → i + d = n → Ev (fun k => L k xs (i : Int)) (xs.take i ++ (List.range' i d).map e) := by
  intro d
  induction d with
  | zero =>
    intro i xs hl hi
    refine ev_some fun k => ?_
    rw [hs, if_neg (by omega)]
    simp [List.take_of_length_le (show xs.length ≤ i by omega)]
  | succ d ih =>
    intro i xs hl hi
    refine Ev.step (f := fun k => (E k (i : Int)).bind fun b => L k (xs.set i b) ((i + 1 : Nat) : Int)) (fun k => ?_) ?_
    · rw [hs, if_pos (by omega), if_pos (by omega), wsucc (n := n) (by omega) hn]
      congr 1
      funext b
      rw [if_pos (by omega)]
      rfl
    · refine ev_bind (hE i (by omega)) ?_
      have h := ih (i + 1) (xs.set i (e i)) (by rw [List.length_set]; exact hl) (by omega)
      have e1 : (xs.set i (e i)).take (i + 1) ++ (List.range' (i + 1) d).map e = xs.take i ++ (List.range' i (d + 1)).map e := by
        rw [List.range'_succ, List.map_cons, List.take_succ_eq_append_getElem (by rw [List.length_set]; omega), List.getElem_set_self, List.take_set_of_le (Nat.le_refl _)]
        simp
      rw [e1] at h
      exact h
theorem map_range {α β : Type} (l : List α) (z : α) (g : α → β) : (List.range' 0 l.length).map (fun i => g (l.getD i z)) = l.map g := by
  apply List.ext_getElem
  · simp
  · intro i h1 h2
    simp only [List.length_map] at h2
    simp [List.getD_eq_getElem?_getD, List.getElem?_eq_getElem h2]
theorem ev_fill_all {α β : Type} {L : Nat → List β → Int → Option (List β)} {E : Nat → Int → Option β} {l : List α} {z : α} {g : α → β} {xs : List β} (hn : l.length ≤ 9223372036854775807)
    (hs : ∀ k xs i, L (k + 1) xs i = if i < (l.length : Int) then (if 0 ≤ i then ((E k i).bind fun b => if i < (xs.length : Int) then L k (xs.set i.toNat b) (wrap64 (i + 1)) else none) else none) else some xs)
    (hE : ∀ i, i < l.length → Ev (fun k => E k (i : Int)) (g (l.getD i z))) (hx : xs.length = l.length) : Ev (fun k => L k xs 0) (l.map g) := by
  have h := ev_fill (e := fun i => g (l.getD i z)) hn hs hE l.length 0 xs hx (by omega)
  rw [map_range] at h
  simpa using h

/-- Every place meets a test, tried place by place. -/
theorem ev_all {L E : Nat → Int → Option Bool} {n m : Nat} (hn : n ≤ 9223372036854775807) (hnm : n ≤ m)
    (hs : ∀ k i, L (k + 1) i = if i < (n : Int) then (if 0 ≤ i then (if i < (m : Int) then ((E k i).bind fun b => if b = true then L k (wrap64 (i + 1)) else some false) else none) else none) else some true)
    (hE : ∀ i, i < n → Ev (fun k => E k (i : Int)) true) : ∀ (d i : Nat), i + d = n → Ev (fun k => L k (i : Int)) true := by
  intro d
  induction d with
  | zero => intro i hi; exact ev_some fun k => by rw [hs, if_neg (by omega)]
  | succ d ih =>
    intro i hi
    refine Ev.step (f := fun k => (E k (i : Int)).bind fun b => if b = true then L k ((i + 1 : Nat) : Int) else some false) (fun k => ?_) (ev_bind (hE i (by omega)) (by simpa using ih (i + 1) (by omega)))
    rw [hs, if_pos (by omega), if_pos (by omega), if_pos (by omega), wsucc (n := n) (by omega) hn]

/-- What is left of a number, place by place, as long as it is not below 0. -/
theorem ev_size {L E : Nat → Int → Int → Option Int} {n : Nat} {P : Nat → Prop} (hn : n ≤ 9223372036854775807)
    (hs : ∀ k a i, L (k + 1) a i = if i < (n : Int) then (if 0 ≤ i then ((E k i a).bind fun t => if t < 0 then some (-1) else L k t (wrap64 (i + 1))) else none) else some a)
    (hE : ∀ i a, i < n → 0 ≤ a → a ≤ 1048576 → ∃ t, Ev (fun k => E k (i : Int) a) t ∧ t ≤ a ∧ (0 ≤ t → P i)) :
    ∀ (d i : Nat) (a : Int), i + d = n → 0 ≤ a → a ≤ 1048576 → ∃ r, Ev (fun k => L k a (i : Int)) r ∧ r ≤ a ∧ (0 ≤ r → ∀ m, i ≤ m → m < n → P m) := by
  intro d
  induction d with
  | zero => intro i a hi h0 h1; exact ⟨a, ev_some fun k => by rw [hs, if_neg (by omega)], Int.le_refl _, fun _ m h2 h3 => by omega⟩
  | succ d ih =>
    intro i a hi h0 h1
    obtain ⟨t, ht, hta, hp⟩ := hE i a (by omega) h0 h1
    have hst : ∀ k, L (k + 1) a (i : Int) = (E k (i : Int) a).bind fun t => if t < 0 then some (-1) else L k t ((i + 1 : Nat) : Int) := fun k => by
      rw [hs, if_pos (by omega), if_pos (by omega), wsucc (n := n) (by omega) hn]
    by_cases hneg : t < 0
    · exact ⟨-1, Ev.step hst (ev_bind ht (by simp only [if_pos hneg]; exact Ev.now _)), by omega, fun h => by omega⟩
    · obtain ⟨r, hr, hra, hq⟩ := ih (i + 1) t (by omega) (by omega) (by omega)
      refine ⟨r, Ev.step hst (ev_bind ht (by simp only [if_neg hneg]; exact hr)), by omega, fun h0r m h2 h3 => ?_⟩
      by_cases e : m = i
      · subst e; exact hp (by omega)
      · exact hq h0r m (by omega) h3
end Go.Proofs.Ytijbejiajaiciaa.Pu

/- More plain facts on rounds: tests in a row, folds, searches. -/
namespace Go.Proofs.Ytijbejiajaiciaa.Pu
set_option linter.unusedVariables false
set_option linter.unusedSimpArgs false
open Go.RowKit Go.Proofs.YtijbejiajaiciaaW.PrintWords

/-- Tests in a row, one a round; then what comes. -/
theorem ev_scan {L : Nat → Int → Option Bool} {g : Nat → Option Bool} {n : Nat} {T : Nat → Bool} {r : Bool}
    (hs : ∀ k i, i < n → L (k + 1) (i : Int) = if T i = true then L k ((i + 1 : Nat) : Int) else some false) (he : ∀ k, L (k + 1) (n : Int) = g k) (hr : Ev g r) :
    ∀ (d i : Nat), i + d = n → Ev (fun k => L k (i : Int)) ((List.range' i d).all T && r) := by
  intro d
  induction d with
  | zero =>
    intro i hi
    obtain rfl : i = n := by omega
    exact Ev.step he hr
  | succ d ih =>
    intro i hi
    rw [List.range'_succ, List.all_cons]
    by_cases h : T i = true
    · rw [h, Bool.true_and]
      exact Ev.step (fun k => by rw [hs k i (by omega), if_pos h]) (ih (i + 1) (by omega))
    · rw [Bool.eq_false_iff.mpr h, Bool.false_and, Bool.false_and]
      exact ev_some fun k => by rw [hs k i (by omega), if_neg h]
/-- Tests in a row, each of many rounds; then what comes. -/
theorem ev_outer {L : Nat → Int → Option Bool} {n : Nat} {T : Nat → Bool} {r0 : Bool}
    (hs : ∀ i r, i < n → Ev (fun k => L k ((i + 1 : Nat) : Int)) r → Ev (fun k => L k (i : Int)) (T i && r)) (he : Ev (fun k => L k (n : Int)) r0) :
    ∀ (d i : Nat), i + d = n → Ev (fun k => L k (i : Int)) ((List.range' i d).all T && r0) := by
  intro d
  induction d with
  | zero =>
    intro i hi
    obtain rfl : i = n := by omega
    exact he
  | succ d ih =>
    intro i hi
    rw [List.range'_succ, List.all_cons, Bool.and_assoc]
    exact hs i _ (by omega) (ih (i + 1) (by omega))
/-- A state that is carried along; then what comes. -/
theorem ev_fold {σ ρ : Type} {L : Nat → σ → Int → Option ρ} {n : Nat} {F : σ → Nat → σ} {fin : σ → ρ} (Inv : Nat → σ → Prop)
    (hs : ∀ s i, i < n → Inv i s → ∀ r, Ev (fun k => L k (F s i) ((i + 1 : Nat) : Int)) r → Ev (fun k => L k s (i : Int)) r) (hi : ∀ s i, i < n → Inv i s → Inv (i + 1) (F s i))
    (he : ∀ s, Inv n s → Ev (fun k => L k s (n : Int)) (fin s)) : ∀ (d i : Nat) (s : σ), i + d = n → Inv i s → Ev (fun k => L k s (i : Int)) (fin ((List.range' i d).foldl F s)) := by
  intro d
  induction d with
  | zero =>
    intro i s h hv
    obtain rfl : i = n := by omega
    exact he s hv
  | succ d ih =>
    intro i s h hv
    rw [List.range'_succ, List.foldl_cons]
    exact hs s i (by omega) hv _ (ih (i + 1) (F s i) (by omega) (hi s i (by omega) hv))
/-- The first place that meets a test, -1 without one. -/
def findI (T : Nat → Bool) : Nat → Nat → Int
  | _, 0 => -1
  | i, d + 1 => if T i = true then (i : Int) else findI T (i + 1) d
theorem ev_find {L : Nat → Int → Option Int} {n : Nat} {T : Nat → Bool}
    (hy : ∀ i, i < n → T i = true → Ev (fun k => L k (i : Int)) (i : Int)) (hn : ∀ i, i < n → T i = false → ∀ r, Ev (fun k => L k ((i + 1 : Nat) : Int)) r → Ev (fun k => L k (i : Int)) r)
    (he : Ev (fun k => L k (n : Int)) (-1)) : ∀ (d i : Nat), i + d = n → Ev (fun k => L k (i : Int)) (findI T i d) := by
  intro d
  induction d with
  | zero =>
    intro i hi
    obtain rfl : i = n := by omega
    exact he
  | succ d ih =>
    intro i hi
    unfold findI
    by_cases h : T i = true
    · rw [if_pos h]; exact hy i (by omega) h
    · rw [if_neg h]; exact hn i (by omega) (Bool.eq_false_iff.mpr h) _ (ih (i + 1) (by omega))
theorem findI_range {T : Nat → Bool} : ∀ (d i : Nat), findI T i d = -1 ∨ ∃ j, i ≤ j ∧ j < i + d ∧ findI T i d = (j : Int) ∧ T j = true
  | 0, i => .inl rfl
  | d + 1, i => by
    unfold findI
    by_cases h : T i = true
    · rw [if_pos h]; exact .inr ⟨i, Nat.le_refl _, by omega, rfl, h⟩
    · rw [if_neg h]
      rcases findI_range d (i + 1) with h1 | ⟨j, h1, h2, h3, h4⟩
      · exact .inl h1
      · exact .inr ⟨j, by omega, by omega, h3, h4⟩
theorem bytes_empty (a : ByteArray) : (a.toList == ([] : List UInt8)) = decide ((a.size : Int) ≤ 0) := by
  rw [ByteArray.toList_eq]
  have h : a.data.toList.length = a.size := by rw [Array.length_toList]; rfl
  cases e : a.data.toList with
  | nil =>
    have h1 : a.size = 0 := by rw [← h, e]; rfl
    rw [decide_eq_true (by omega)]; rfl
  | cons x l =>
    have h1 : a.size = l.length + 1 := by rw [← h, e]; rfl
    rw [decide_eq_false (by omega)]; rfl
theorem getD_mem' {α : Type} {l : List α} {i : Nat} {z : α} (hi : i < l.length) : l.getD i z ∈ l := by
  rw [List.getD_eq_getElem?_getD, List.getElem?_eq_getElem hi]; exact List.getElem_mem hi
end Go.Proofs.Ytijbejiajaiciaa.Pu

/- What the functions on flashes answer: sizes, copies, comparison. -/
namespace Go.Proofs.Ytijbejiajaiciaa.Pu
set_option linter.unusedVariables false
set_option linter.unusedSimpArgs false
open Go.RowKit Go.Proofs.Ytijbejiajaiciaa.PC Go.Proofs.YtijbejiajaiciaaW.PrintWords

theorem rdLB_nat (l : List S144) (i : Nat) : rd_T144 l (i : Int) = l.getD i z144 := rfl
theorem rdIB_nat (l : List S112) (i : Nat) : rd_T112 l (i : Int) = l.getD i z112 := rfl
theorem rdLL_nat (l : List S163) (i : Nat) : rd_T163 l (i : Int) = l.getD i z163 := rfl
theorem rdIL_nat (l : List S114) (i : Nat) : rd_T114 l (i : Int) = l.getD i z114 := rfl

def toLf (x : S163) : S114 := ⟨x.f0, x.f1⟩
def toBk (x : S144) : S112 := ⟨x.f0, x.f1, x.f2.map toLf⟩
def toFl (l : List S144) : List S112 := l.map toBk

theorem toLeafS_ev (l : List S163) (h : l.length ≤ 1048576) : Ev (fun k => laws_toLeafS.f k l) (l.map toLf) := by
  have h1 := ev_fill_all (E := fun _ i => (laws_toLeaf.f (rd_T163 l i).f0 (rd_T163 l i).f1).bind fun bt => some (⟨bt.1, bt.2⟩ : S114)) (l := l) (z := z163) (g := toLf) (xs := List.replicate l.length z114) (L := fun k xs i => laws_toLeafS.l0 k l xs i) (by omega) (fun k xs i => by
    simp only [laws_toLeafS.l0, Option.bind_assoc, Option.bind_some]) (fun i hi => by rw [rdLL_nat]; exact Ev.now _) (by simp)
  refine ev_ext (fun k => ?_) h1
  unfold laws_toLeafS.f
  rw [if_pos (by omega), if_pos (by simp; omega)]
  simp
theorem toBlock_ev (b : Bool) (n : Int) (l : List S163) (h : l.length ≤ 1048576) : Ev (fun k => laws_toBlock.f k b n l) (b, n, l.map toLf) := by
  unfold laws_toBlock.f
  exact ev_bind (toLeafS_ev l h) (Ev.now _)
theorem toFlash_ev (l : List S144) (h : l.length ≤ 1048576) (hk : ∀ x ∈ l, x.f2.length ≤ 1048576) : Ev (fun k => laws_toFlash.f k l) (toFl l) := by
  have h1 := ev_fill_all (E := fun k i => (laws_toBlock.f k (rd_T144 l i).f0 (rd_T144 l i).f1 (rd_T144 l i).f2).bind fun bt => some (⟨bt.1, bt.2.1, bt.2.2⟩ : S112)) (l := l) (z := z144) (g := toBk) (xs := List.replicate l.length z112) (L := fun k xs i => laws_toBlockS.l0 k l xs i) (by omega) (fun k xs i => by
    simp only [laws_toBlockS.l0, Option.bind_assoc, Option.bind_some]) (fun i hi => by
      rw [rdLB_nat]
      exact ev_bind (toBlock_ev _ _ _ (hk _ (getD_mem' hi))) (Ev.now _)) (by simp)
  unfold laws_toFlash.f
  refine ev_bind (ev_ext (fun k => ?_) h1) (Ev.now _)
  unfold laws_toBlockS.f
  rw [if_pos (by omega), if_pos (by simp; omega)]
  simp

theorem eqLeafS_ev (l : List S114) (hn : l.length ≤ 1048576) : Ev (fun k => laws_eqLeafS.f k l l) true := by
  have h1 := ev_all (n := l.length) (m := l.length) (L := fun k i => laws_eqLeafS.l0 k l l i) (E := fun _ i => laws_eqLeaf.f (rd_T114 l i).f0 (rd_T114 l i).f1 (rd_T114 l i).f0 (rd_T114 l i).f1) (by omega) (Nat.le_refl _) (fun k i => by simp only [laws_eqLeafS.l0])
    (fun i _ => ev_const (by simp [laws_eqLeaf.f])) l.length 0 (by omega)
  refine ev_ext (fun k => ?_) h1
  unfold laws_eqLeafS.f
  rw [if_pos rfl]; rfl
theorem eqFlash_ev (l : List S112) (hn : l.length ≤ 1048576) (hk : ∀ x ∈ l, x.f2.length ≤ 1048576) : Ev (fun k => laws_eqFlash.f k l l) true := by
  have h1 := ev_all (n := l.length) (m := l.length) (L := fun k i => laws_eqBlockS.l0 k l l i) (E := fun k i => laws_eqBlock.f k (rd_T112 l i).f0 (rd_T112 l i).f1 (rd_T112 l i).f2 (rd_T112 l i).f0 (rd_T112 l i).f1 (rd_T112 l i).f2) (by omega) (Nat.le_refl _) (fun k i => by simp only [laws_eqBlockS.l0])
    (fun i hi => by
      rw [rdIB_nat]
      unfold laws_eqBlock.f
      simp only [bne_self_eq_false, Bool.false_eq_true, if_false, if_true]
      exact ev_bind (eqLeafS_ev _ (hk _ (getD_mem' hi))) (by simp only [if_true]; exact Ev.now _)) l.length 0 (by omega)
  unfold laws_eqFlash.f
  refine ev_bind (ev_ext (fun k => ?_) h1) (by simp only [if_true]; exact Ev.now _)
  unfold laws_eqBlockS.f
  rw [if_pos rfl]; rfl

theorem szLeafS_ev (l : List S163) (a : Int) (h0 : 0 ≤ a) (h1 : a ≤ 1048576) (hn : l.length ≤ 9223372036854775807) (hk : ∀ x ∈ l, x.f1.size ≤ 9223372036854775807) :
    ∃ r, Ev (fun k => laws_szLeafS.f k l a) r ∧ r ≤ a ∧ (0 ≤ r → (l.length : Int) ≤ a ∧ ∀ x ∈ l, (x.f1.size : Int) ≤ 1048576) := by
  by_cases h : a - (l.length : Int) < 0
  · refine ⟨-1, ⟨0, fun k _ => ?_⟩, by omega, fun h2 => by omega⟩
    show laws_szLeafS.f k l a = _
    unfold laws_szLeafS.f
    rw [w64 (by omega) (by omega), if_pos h]
  · obtain ⟨r, hr, hra, hq⟩ := ev_size (n := l.length) (L := fun k a i => laws_szLeafS.l0 k l a i) (E := fun _ i a => laws_szLeaf.f (rd_T163 l i).f0 (rd_T163 l i).f1 a) (P := fun i => ((l.getD i z163).f1.size : Int) ≤ 1048576) hn (fun k a i => by simp only [laws_szLeafS.l0])
      (fun i a hi h2 h3 => by
        have hb := hk _ (getD_mem' (z := z163) hi)
        rw [rdLL_nat]
        unfold laws_szLeaf.f
        rw [w64 (by omega) (by omega)]
        by_cases h4 : a - ((l.getD i z163).f1.size : Int) < 0
        · exact ⟨-1, ev_const (by rw [if_pos h4]), by omega, fun h5 => by omega⟩
        · exact ⟨_, ev_const (by rw [if_neg h4]), by omega, fun _ => by omega⟩) l.length 0 (a - (l.length : Int)) (by omega) (by omega) (by omega)
    refine ⟨r, ev_ext (fun k => ?_) hr, by omega, fun h2 => ⟨by omega, fun x hx => ?_⟩⟩
    · unfold laws_szLeafS.f
      rw [w64 (by omega) (by omega), if_neg h]; rfl
    · obtain ⟨i, hi, rfl⟩ := List.getElem_of_mem hx
      have := hq h2 i (by omega) hi
      rwa [List.getD_eq_getElem?_getD, List.getElem?_eq_getElem hi] at this
theorem szFlash_ev (l : List S144) (a : Int) (h0 : 0 ≤ a) (h1 : a ≤ 1048576) (hn : l.length ≤ 9223372036854775807) (hk : ∀ x ∈ l, x.f2.length ≤ 9223372036854775807 ∧ ∀ y ∈ x.f2, y.f1.size ≤ 9223372036854775807) :
    ∃ r, Ev (fun k => laws_szFlash.f k l a) r ∧ r ≤ a ∧ (0 ≤ r → (l.length : Int) ≤ a ∧ ∀ x ∈ l, (x.f2.length : Int) ≤ 1048576 ∧ ∀ y ∈ x.f2, (y.f1.size : Int) ≤ 1048576) := by
  by_cases h : a - (l.length : Int) < 0
  · refine ⟨-1, ⟨0, fun k _ => ?_⟩, by omega, fun h2 => by omega⟩
    show laws_szFlash.f k l a = _
    unfold laws_szFlash.f laws_szBlockS.f
    rw [w64 (by omega) (by omega), if_pos h]
    rfl
  · obtain ⟨r, hr, hra, hq⟩ := ev_size (n := l.length) (L := fun k a i => laws_szBlockS.l0 k l a i) (E := fun k i a => laws_szBlock.f k (rd_T144 l i).f0 (rd_T144 l i).f1 (rd_T144 l i).f2 a) (P := fun i => ((l.getD i z144).f2.length : Int) ≤ 1048576 ∧ ∀ y ∈ (l.getD i z144).f2, (y.f1.size : Int) ≤ 1048576) hn (fun k a i => by simp only [laws_szBlockS.l0])
      (fun i a hi h2 h3 => by
        have hb := hk _ (getD_mem' (z := z144) hi)
        rw [rdLB_nat]
        obtain ⟨t, ht, hta, hp⟩ := szLeafS_ev (l.getD i z144).f2 a h2 h3 hb.1 hb.2
        unfold laws_szBlock.f
        by_cases h4 : t < 0
        · exact ⟨-1, ev_bind ht (by simp only [if_pos h4]; exact Ev.now _), by omega, fun h5 => by omega⟩
        · exact ⟨t, ev_bind ht (by simp only [if_neg h4]; exact Ev.now _), hta, fun h5 => ⟨by have := (hp h5).1; omega, (hp h5).2⟩⟩) l.length 0 (a - (l.length : Int)) (by omega) (by omega) (by omega)
    have hr2 : Ev (fun k => laws_szBlockS.f k l a) r := by
      refine ev_ext (fun k => ?_) hr
      unfold laws_szBlockS.f
      rw [w64 (by omega) (by omega), if_neg h]; rfl
    have hp : 0 ≤ r → (l.length : Int) ≤ a ∧ ∀ x ∈ l, (x.f2.length : Int) ≤ 1048576 ∧ ∀ y ∈ x.f2, (y.f1.size : Int) ≤ 1048576 := fun h2 => ⟨by omega, fun x hx => by
      obtain ⟨i, hi, rfl⟩ := List.getElem_of_mem hx
      have := hq h2 i (by omega) hi
      rwa [List.getD_eq_getElem?_getD, List.getElem?_eq_getElem hi] at this⟩
    unfold laws_szFlash.f
    by_cases h4 : r < 0
    · exact ⟨-1, ev_bind hr2 (by simp only [if_pos h4]; exact Ev.now _), by omega, fun h5 => by omega⟩
    · exact ⟨r, ev_bind hr2 (by simp only [if_neg h4]; exact Ev.now _), by omega, hp⟩
/-- What a law on a flash begins with. -/
theorem flash_start {l : List S144} (hl : l.length ≤ maxLen) (hx : ∀ x ∈ l, x.f2.length ≤ maxLen ∧ ∀ y ∈ x.f2, y.f1.size ≤ maxLen) :
    ∃ r, Ev (fun k => laws_szFlash.f k l 1048576) r ∧ (0 ≤ r → Ev (fun k => laws_toFlash.f k l) (toFl l) ∧ Ev (fun k => laws_eqFlash.f k (toFl l) (toFl l)) true ∧ (toFl l).length ≤ 1048576 ∧ ∀ x ∈ toFl l, x.f2.length ≤ 1048576 ∧ ∀ y ∈ x.f2, y.f1.size ≤ 1048576) := by
  unfold maxLen at hl hx
  obtain ⟨r, hr, _, hq⟩ := szFlash_ev l 1048576 (by omega) (by omega) (by omega) (fun x h => ⟨by have := (hx x h).1; omega, fun y hy => by have := (hx x h).2 y hy; omega⟩)
  refine ⟨r, hr, fun h0 => ?_⟩
  obtain ⟨h1, h2⟩ := hq h0
  have hlen : (toFl l).length = l.length := by unfold toFl; exact List.length_map _
  have hm : ∀ x ∈ toFl l, x.f2.length ≤ 1048576 ∧ ∀ y ∈ x.f2, y.f1.size ≤ 1048576 := by
    intro x h
    unfold toFl at h
    obtain ⟨y, hy, rfl⟩ := List.mem_map.1 h
    obtain ⟨a1, a2⟩ := h2 y hy
    refine ⟨by show (y.f2.map toLf).length ≤ _; rw [List.length_map]; omega, fun z hz => ?_⟩
    obtain ⟨q, hq2, rfl⟩ := List.mem_map.1 (show z ∈ y.f2.map toLf from hz)
    have := a2 q hq2
    show q.f1.size ≤ _
    omega
  exact ⟨toFlash_ev l (by omega) (fun x h => by have := (h2 x h).1; omega), eqFlash_ev _ (by omega) (fun x h => (hm x h).1), by omega, hm⟩
end Go.Proofs.Ytijbejiajaiciaa.Pu

/- When a flash is right, as one test; the program's and the reference's FlashOk answer it. -/
namespace Go.Proofs.Ytijbejiajaiciaa.Pu
set_option linter.unusedVariables false
set_option linter.unusedSimpArgs false
open Go.RowKit Go.Proofs.Ytijbejiajaiciaa.PC Go.Proofs.YtijbejiajaiciaaW.PrintWords

theorem inF_eq (a l h : Int) : impl_in.f a l h = some (decide (l ≤ a ∧ a ≤ h)) := by
  unfold impl_in.f
  by_cases h1 : a ≥ l
  · rw [if_pos h1]; congr 1; simp; omega
  · rw [if_neg h1]; congr 1; simp; omega
theorem l01InF_eq (a l h : Int) : spec_l01In.f a l h = some (decide (l ≤ a ∧ a ≤ h)) := by
  unfold spec_l01In.f
  by_cases h1 : a ≥ l
  · rw [if_pos h1]; congr 1; simp; omega
  · rw [if_neg h1]; congr 1; simp; omega

def leafB (x : S114) : Bool := if x.f0 = 0 then decide ((x.f1.size : Int) ≤ 0) else if x.f0 = 1 then decide (1 ≤ (x.f1.size : Int) ∧ (x.f1.size : Int) ≤ 120) else if x.f0 = 2 then decide ((x.f1.size : Int) ≤ 120) else false
/-- The leaf at place i of a block, and the one ahead of it. -/
def stepB (ls : List S114) (i : Nat) : Bool := leafB (ls.getD i z114) && (decide (i = 0) || !decide ((ls.getD (i - 1) z114).f0 = 0) || decide ((ls.getD i z114).f0 = 0))
def blockB (b : S112) : Bool := decide (b.f2.length = 4) && (decide (0 ≤ b.f1 ∧ b.f1 ≤ 1000000000) && (List.range' 0 b.f2.length).all (stepB b.f2))
def flashB (f : List S112) : Bool := (List.range' 0 f.length).all (fun i => blockB (f.getD i z112)) && decide (3 ≤ (f.length : Int) ∧ (f.length : Int) ≤ 10)

theorem sLeaf_eq (x : S114) : spec_l05Leaf.f x.f0 x.f1 = some (leafB x) := by
  unfold spec_l05Leaf.f leafB
  simp only [l01InF_eq, Option.bind_some, bytes_empty]
  repeat' split
  all_goals rfl
theorem iLeaf_eq (x : S114) : impl_leafOk.f x.f0 x.f1 = some (leafB x) := by
  unfold impl_leafOk.f leafB
  simp only [inF_eq, Option.bind_some, bytes_empty]
  repeat' split
  all_goals rfl
theorem sFlash_step (k : Nat) (a : Int) (f : List S112) (b : Bool) (n : Int) (ls : List S114) (i : Nat) (hi : i < ls.length) (hn : ls.length ≤ 1048576) :
    spec_FlashOk.l1 (k + 1) a (i : Int) f b n ls = if stepB ls i = true then spec_FlashOk.l1 k a ((i + 1 : Nat) : Int) f b n ls else some false := by
  simp only [spec_FlashOk.l1]
  rw [if_pos (by omega), if_pos (by omega), rdIL_nat, sLeaf_eq, wsucc (n := ls.length) hi (by omega), w64 (x := (i : Int) - 1) (by omega) (by omega)]
  simp only [Option.bind_some]
  unfold stepB
  by_cases h : leafB (ls.getD i z114) = true
  · rw [if_pos h, h, Bool.true_and]
    by_cases h0 : i = 0
    · subst h0
      simp
    · obtain ⟨j, rfl⟩ : ∃ j, i = j + 1 := ⟨i - 1, by omega⟩
      rw [if_pos (by omega), if_pos (by omega), if_pos (by omega), show ((j + 1 : Nat) : Int) - 1 = (j : Int) by omega, rdIL_nat, show j + 1 - 1 = j by omega]
      generalize (ls.getD j z114).f0 = u
      generalize (ls.getD (j + 1) z114).f0 = v
      by_cases h1 : u = 0 <;> by_cases h2 : v = 0 <;> simp [h1, h2]
  · rw [if_neg h, Bool.eq_false_iff.mpr h, Bool.false_and]
    rfl
theorem iFlash_step (k : Nat) (f : List S112) (a c : Int) (f2 : List S112) (b : Bool) (n : Int) (ls : List S114) (i : Nat) (hi : i < ls.length) (hn : ls.length ≤ 1048576) :
    impl_FlashOk.l1 (k + 1) f a c ls (ls.length : Int) (i : Int) f2 b n ls = if stepB ls i = true then impl_FlashOk.l1 k f a c ls (ls.length : Int) ((i + 1 : Nat) : Int) f2 b n ls else some false := by
  simp only [impl_FlashOk.l1]
  rw [if_pos (by omega), if_pos (by omega), if_pos (by omega), rdIL_nat, iLeaf_eq, wsucc (n := ls.length) hi (by omega), w64 (x := (i : Int) - 1) (by omega) (by omega)]
  simp only [Option.bind_some]
  unfold stepB
  by_cases h : leafB (ls.getD i z114) = true
  · rw [if_pos h, h, Bool.true_and]
    by_cases h0 : i = 0
    · subst h0
      simp
    · obtain ⟨j, rfl⟩ : ∃ j, i = j + 1 := ⟨i - 1, by omega⟩
      rw [if_pos (by omega), if_pos (by omega), if_pos (by omega), show ((j + 1 : Nat) : Int) - 1 = (j : Int) by omega, rdIL_nat, show j + 1 - 1 = j by omega]
      generalize (ls.getD j z114).f0 = u
      generalize (ls.getD (j + 1) z114).f0 = v
      by_cases h1 : u = 0 <;> by_cases h2 : v = 0 <;> simp [h1, h2]
  · rw [if_neg h, Bool.eq_false_iff.mpr h, Bool.false_and]
    rfl
theorem sFlashOk_ev (f : List S112) (hn : f.length ≤ 1048576) (hk : ∀ x ∈ f, x.f2.length ≤ 1048576) : Ev (fun k => spec_FlashOk.f k f) (flashB f) := by
  refine ev_outer (L := fun k i => spec_FlashOk.l0 k i f) (n := f.length) (T := fun i => blockB (f.getD i z112)) (fun i r hi hr => ?_) (ev_some fun k => by simp only [spec_FlashOk.l0]; rw [if_neg (by omega), l01InF_eq]; rfl) f.length 0 (by omega)
  have hb := hk _ (getD_mem' (z := z112) hi)
  unfold blockB
  by_cases h4 : (f.getD i z112).f2.length = 4
  · rw [decide_eq_true h4, Bool.true_and]
    by_cases hw : 0 ≤ (f.getD i z112).f1 ∧ (f.getD i z112).f1 ≤ 1000000000
    · rw [decide_eq_true hw, Bool.true_and]
      have h := ev_scan (L := fun k j => spec_FlashOk.l1 k i j f (f.getD i z112).f0 (f.getD i z112).f1 (f.getD i z112).f2) (n := (f.getD i z112).f2.length) (T := stepB (f.getD i z112).f2) (fun k j hj => sFlash_step k i f _ _ _ j hj hb)
        (g := fun k => spec_FlashOk.l0 k ((i + 1 : Nat) : Int) f) (fun k => by simp only [spec_FlashOk.l1]; rw [if_neg (by omega), wsucc (n := f.length) hi (by omega)]) hr _ 0 (Nat.zero_add _)
      refine Ev.step (f := fun k => spec_FlashOk.j1 k i false f (f.getD i z112).f0 (f.getD i z112).f1 (f.getD i z112).f2) (fun k => ?_) (Ev.step (fun k => ?_) h)
      · simp only [spec_FlashOk.l0]
        rw [if_pos (by omega), if_pos (by omega), rdIB_nat, if_pos (by omega), l01InF_eq, decide_eq_true hw]
        rfl
      · simp only [spec_FlashOk.j1]
        rfl
    · rw [decide_eq_false hw, Bool.false_and, Bool.false_and]
      refine Ev.step (f := fun k => spec_FlashOk.j1 k i true f (f.getD i z112).f0 (f.getD i z112).f1 (f.getD i z112).f2) (fun k => ?_) (ev_some fun k => by simp [spec_FlashOk.j1])
      simp only [spec_FlashOk.l0]
      rw [if_pos (by omega), if_pos (by omega), rdIB_nat, if_pos (by omega), l01InF_eq, decide_eq_false hw]
      rfl
  · rw [decide_eq_false h4, Bool.false_and, Bool.false_and]
    refine Ev.step (f := fun k => spec_FlashOk.j1 k i true f (f.getD i z112).f0 (f.getD i z112).f1 (f.getD i z112).f2) (fun k => ?_) (ev_some fun k => by simp [spec_FlashOk.j1])
    simp only [spec_FlashOk.l0]
    rw [if_pos (by omega), if_pos (by omega), rdIB_nat, if_neg (by omega)]
theorem iFlashOk_ev (f : List S112) (hn : f.length ≤ 1048576) (hk : ∀ x ∈ f, x.f2.length ≤ 1048576) : Ev (fun k => impl_FlashOk.f k f) (flashB f) := by
  refine ev_outer (L := fun k i => impl_FlashOk.l0 k f (f.length : Int) i f) (n := f.length) (T := fun i => blockB (f.getD i z112)) (fun i r hi hr => ?_) (ev_some fun k => by simp only [impl_FlashOk.l0]; rw [if_neg (by omega), inF_eq]; rfl) f.length 0 (by omega)
  have hb := hk _ (getD_mem' (z := z112) hi)
  unfold blockB
  by_cases h4 : (f.getD i z112).f2.length = 4
  · rw [decide_eq_true h4, Bool.true_and]
    by_cases hw : 0 ≤ (f.getD i z112).f1 ∧ (f.getD i z112).f1 ≤ 1000000000
    · rw [decide_eq_true hw, Bool.true_and]
      have h := ev_scan (L := fun k j => impl_FlashOk.l1 k f (f.length : Int) i (f.getD i z112).f2 ((f.getD i z112).f2.length : Int) j f (f.getD i z112).f0 (f.getD i z112).f1 (f.getD i z112).f2) (n := (f.getD i z112).f2.length) (T := stepB (f.getD i z112).f2) (fun k j hj => iFlash_step k f _ _ f _ _ _ j hj hb)
        (g := fun k => impl_FlashOk.l0 k f (f.length : Int) ((i + 1 : Nat) : Int) f) (fun k => by simp only [impl_FlashOk.l1]; rw [if_neg (by omega), wsucc (n := f.length) hi (by omega)]) hr _ 0 (Nat.zero_add _)
      refine Ev.step (f := fun k => impl_FlashOk.j1 k f (f.length : Int) i false f (f.getD i z112).f0 (f.getD i z112).f1 (f.getD i z112).f2) (fun k => ?_) (Ev.step (fun k => ?_) h)
      · simp only [impl_FlashOk.l0]
        rw [if_pos (by omega), if_pos (by omega), if_pos (by omega), rdIB_nat, if_pos (by omega), inF_eq, decide_eq_true hw]
        rfl
      · simp only [impl_FlashOk.j1]
        rfl
    · rw [decide_eq_false hw, Bool.false_and, Bool.false_and]
      refine Ev.step (f := fun k => impl_FlashOk.j1 k f (f.length : Int) i true f (f.getD i z112).f0 (f.getD i z112).f1 (f.getD i z112).f2) (fun k => ?_) (ev_some fun k => by simp [impl_FlashOk.j1])
      simp only [impl_FlashOk.l0]
      rw [if_pos (by omega), if_pos (by omega), if_pos (by omega), rdIB_nat, if_pos (by omega), inF_eq, decide_eq_false hw]
      rfl
  · rw [decide_eq_false h4, Bool.false_and, Bool.false_and]
    refine Ev.step (f := fun k => impl_FlashOk.j1 k f (f.length : Int) i true f (f.getD i z112).f0 (f.getD i z112).f1 (f.getD i z112).f2) (fun k => ?_) (ev_some fun k => by simp [impl_FlashOk.j1])
    simp only [impl_FlashOk.l0]
    rw [if_pos (by omega), if_pos (by omega), if_pos (by omega), rdIB_nat, if_neg (by omega)]
end Go.Proofs.Ytijbejiajaiciaa.Pu

/- The next blank leaf of a block; the program's and the reference's NextBlank tell it. -/
namespace Go.Proofs.Ytijbejiajaiciaa.Pu
set_option linter.unusedVariables false
set_option linter.unusedSimpArgs false
open Go.RowKit Go.Proofs.Ytijbejiajaiciaa.PC Go.Proofs.YtijbejiajaiciaaW.PrintWords

def blankL (x : S114) : Bool := decide (x.f0 = 0)
def nextB (ls : List S114) : Int := let r := findI (fun i => blankL (ls.getD i z114)) 0 ls.length; if r = -1 then 4 else r
theorem iNext_ev (b : Bool) (n : Int) (ls : List S114) (hn : ls.length ≤ 1048576) : Ev (fun k => impl_NextBlank.f k b n ls) (nextB ls) := by
  have main : ∀ (d i : Nat), i + d = ls.length → Ev (fun k => impl_NextBlank.l0 k ls (ls.length : Int) (i : Int)) (if findI (fun i => blankL (ls.getD i z114)) i d = -1 then 4 else findI (fun i => blankL (ls.getD i z114)) i d) := by
    intro d
    induction d with
    | zero => intro i hi; exact ev_some fun k => by simp only [impl_NextBlank.l0]; rw [if_neg (by omega)]; rfl
    | succ d ih =>
      intro i hi
      unfold findI
      by_cases h : (ls.getD i z114).f0 = 0
      · rw [if_pos (show blankL (ls.getD i z114) = true from decide_eq_true h), if_neg (by omega)]
        refine ev_some fun k => ?_
        simp only [impl_NextBlank.l0]
        rw [if_pos (by omega), if_pos (by omega), if_pos (by omega), rdIL_nat, if_pos h]
      · rw [if_neg (show ¬ blankL (ls.getD i z114) = true by unfold blankL; rw [decide_eq_false h]; decide)]
        refine Ev.step (fun k => ?_) (ih (i + 1) (by omega))
        simp only [impl_NextBlank.l0]
        rw [if_pos (by omega), if_pos (by omega), if_pos (by omega), rdIL_nat, if_neg h, wsucc (n := ls.length) (by omega) (by omega)]
  exact main ls.length 0 (by omega)
theorem sNext_ev (b : Bool) (n : Int) (ls : List S114) (hn : ls.length ≤ 1048576) : Ev (fun k => spec_NextBlank.f k b n ls) (nextB ls) := by
  have main : ∀ (d i : Nat), i + d = ls.length → Ev (fun k => spec_NextBlank.l0 k (i : Int) b n ls) (if findI (fun i => blankL (ls.getD i z114)) i d = -1 then 4 else findI (fun i => blankL (ls.getD i z114)) i d) := by
    intro d
    induction d with
    | zero => intro i hi; exact ev_some fun k => by simp only [spec_NextBlank.l0]; rw [if_neg (by omega)]; rfl
    | succ d ih =>
      intro i hi
      unfold findI
      by_cases h : (ls.getD i z114).f0 = 0
      · rw [if_pos (show blankL (ls.getD i z114) = true from decide_eq_true h), if_neg (by omega)]
        refine ev_some fun k => ?_
        simp only [spec_NextBlank.l0]
        rw [if_pos (by omega), if_pos (by omega), rdIL_nat, if_pos h]
      · rw [if_neg (show ¬ blankL (ls.getD i z114) = true by unfold blankL; rw [decide_eq_false h]; decide)]
        refine Ev.step (fun k => ?_) (ih (i + 1) (by omega))
        simp only [spec_NextBlank.l0]
        rw [if_pos (by omega), if_pos (by omega), rdIL_nat, if_neg h, wsucc (n := ls.length) (by omega) (by omega)]
  exact main ls.length 0 (by omega)
end Go.Proofs.Ytijbejiajaiciaa.Pu

namespace Go.Proofs.Ytijbejiajaiciaa.PC
open Go.RowKit Go.Proofs.YtijbejiajaiciaaW.PrintWords Go.Proofs.YtijbejiajaiciaaW.PrintLast Go.Proofs.YtijbejiajaiciaaW.PrintMore
attribute [local go_sem] max2_int min2_int max_two min_two max_three min_three max_four min_four   -- for this text's walks alone
set_option linter.unusedVariables false
set_option linter.unusedSimpArgs false
def laws_markIntS.l0 : Nat → List Int → Int → Int → Option (Int × List Int)
 | 0,_,_,_=>none
 | k + 1,x0,x1,x5=>if x5 < (x0.length : Int) then (if 0 ≤ x5 then (laws_markIntS.l0 k (x0.set (x5 : Int).toNat x1) (wrap64 (x1 + 1)) (wrap64 (x5 + 1))) else (none)) else (some (x1,x0))
def laws_markIntS.f (k : Nat) (l0 : List Int) (a1 : Int) : Option (Int × List Int):=laws_markIntS.l0 k l0 a1 0
theorem laws_markIntS.mono_l : ∀ k,(∀ y0 y1 y2,LeO (laws_markIntS.l0 k y0 y1 y2) (laws_markIntS.l0 (k + 1) y0 y1 y2))
 | 0=>fun _ _ _ r h=>by simp [laws_markIntS.l0] at h
 | k + 1=>by
  have ih0:=laws_markIntS.mono_l k;intro y0 y1 y2;unfold laws_markIntS.l0
  repeat' first
  | (with_reducible exact ih0 _ _ _)
  | (with_reducible exact LeO.refl _)
  | (with_reducible exact LeO.none _)
  | (with_reducible refine LeO.ite ?_ ?_)
  | (with_reducible refine LeO.bind ?_ (fun _=>?_))
  | exact ih0 _ _ _
  | exact LeO.none _
  | refine LeO.ite ?_ ?_
  | refine LeO.bind ?_ (fun _=>?_)
theorem laws_markIntS.mono : ∀ a0 a1 k,LeO (laws_markIntS.f k a0 a1) (laws_markIntS.f (k + 1) a0 a1):=by
 intro a0 a1 k;have ih0:=laws_markIntS.mono_l k;unfold laws_markIntS.f
 repeat' first
   | (with_reducible exact ih0 _ _ _)
   | (with_reducible exact LeO.refl _)
   | (with_reducible exact LeO.none _)
   | (with_reducible refine LeO.ite ?_ ?_)
   | (with_reducible refine LeO.bind ?_ (fun _=>?_))
   | exact ih0 _ _ _
   | exact LeO.none _
   | refine LeO.ite ?_ ?_
   | refine LeO.bind ?_ (fun _=>?_)
set_option maxHeartbeats 8000000 in
set_option maxRecDepth 100000 in
theorem laws_markIntS.calls (k : Nat) (P0_ : Nat → Prop) (u9000_ : Value) (l0 : List Int) (a1 : Int) (r1 : Int) (r2 : List Int) (w0 w : World) (hB : Below w0.heap.size w0 w) (ho0 : Kd.R (Kd.int .i64) 3 w w0.heap.size P0_ u9000_ l0) (h : laws_markIntS.f k l0 a1 = some (r1,r2)) :
  Calls Try.prog 29 #[u9000_,.int .i64 a1] w fun e w'=>e = .returned (.int .i64 r1) ∧ Kd.R (Kd.int .i64) 3 w' w0.heap.size (fun k_=>(P0_ k_ ∨ w.heap.size ≤ k_)) u9000_ r2 ∧ Below w0.heap.size w0 w' ∧ Kept w w' (fun k_=>P0_ k_):=by
 have HO0:=Aside0.mk (show Kd.R (Kd.int .i64) 3 w w0.heap.size (fun k_=>(P0_ k_ ∨ w.heap.size ≤ k_)) u9000_ l0 from Kd.R_mono ho0 (fun k_ hk=>(.inl hk)));have HK:=Aside0.mk (Kept.refl w (fun k_=>P0_ k_));have HW0:=Aside0.mk hB.size;have HB:=Aside0.mk hB;clear hB;have H : (laws_markIntS.l0 k l0 a1 0) = some (r1,r2):=h;clear h;have H':=Aside0.mk H;clear H
 go_enter Try.func29,Try.ntmps29
 go_wp2
 go_loopg [1,5] k (fun kq v1 v5 w'=>∃ (x0_1 : List Int) (x1_1 : Int) (x5_1 : Int),v1 = .int .i64 x1_1 ∧ v5 = .int .i64 x5_1 ∧ Aside0 (laws_markIntS.l0 kq x0_1 x1_1 x5_1 = some (r1,r2)) ∧ Aside0 (kq ≤ k) ∧ Aside0 (Kd.R (Kd.int .i64) 3 w' w0.heap.size (fun k_=>(P0_ k_ ∨ w.heap.size ≤ k_)) u9000_ x0_1) ∧ Aside0 (Kept w w' (fun k_=>P0_ k_)) ∧ Aside0 (Below w0.heap.size w0 w'));case atStart=>exact ⟨(l0),(a1),(0),(by first | rfl | (simp;done) | (simp [*];done)),(by first | rfl | (simp;done) | (simp [*];done)),H',⟨Nat.le_refl _⟩,⟨rs HO0⟩,⟨by repeat (first | (with_reducible first | exact HK.out | apply Kept.alloc | apply Kept.drewN | apply Kept.drew) | exact HK.out)⟩,⟨hs HB⟩⟩
 case round =>
  clear H'
  try clear c2
  try clear p2
  obtain ⟨x0_1,x1_1,x5_1,rfl,rfl,HA,HK1,HO_0,HK,HB⟩:=hrel;cases gk with
  | zero=>exact absurd HA.out (by simp [laws_markIntS.l0])
  | succ k1 =>
   have H:=HA.out;clear HA;simp only [laws_markIntS.l0] at H
   by_cases c3 : x5_1 < (x0_1.length : Int)
   ·rw [if_pos c3] at H;have c3b0 : decide (x5_1 < (x0_1.length : Int)) = true:=decide_eq_true c3;clear c3
    by_cases c4 : 0 ≤ x5_1
    ·rw [if_pos c4] at H;have c4b0 : decide (0 ≤ x5_1) = true:=decide_eq_true c4;clear c4;obtain ⟨y123,hy123⟩ : ∃ y_ : List Int,y_ = (x0_1.set (x5_1 : Int).toNat x1_1):=⟨_,rfl⟩;replace H : (laws_markIntS.l0 k1 y123 (wrap64 (x1_1 + 1)) (wrap64 (x5_1 + 1))) = some (r1,r2):=by first | (rw [hy123];with_reducible exact H) | (have H2_:=(Option.bind_some _ _).symm.trans H;rw [hy123];with_reducible exact H2_) | (have H2_:=(Option.bind_some _ _).symm.trans H;with_reducible exact H2_) | with_reducible exact H | (rw [hy123];exact H) | exact H
     have Ny123:=Aside0.mk hy123;clear hy123;have H':=Aside0.mk H;clear H;obtain ⟨Ao6,co6,eo6⟩:=Kd.R_slice HO_0.out;subst eo6;have p5 : 0 ≤ (x5_1 : Int):=of_decide_eq_true (by first | (with_reducible assumption) | assumption);have q5 : (x5_1 : Int) < ((x0_1.length : Int) : Int):=of_decide_eq_true (by first | (with_reducible assumption) | assumption);obtain ⟨go5,co5,eo5,gb5,gl5,cl5,HG5⟩:=Kd.R_form HO_0.out (by omega)
     (first | cases eo5 | (injection eo5 with ea_ en_ ec_;(first | subst ea_ | (injection ea_ with ea_;subst ea_));subst ec_;clear en_))
     have GB5:=Aside0.mk gb5;have GG5:=Aside0.mk HG5;clear gb5 gl5 HG5;have HMgo5:=Aside0.mk (show (P0_ go5 ∨ w.heap.size ≤ go5) from (HO_0.out.1 _ rfl));obtain ⟨hx5_0,hf5_0⟩:=Kd.R_celln 0 HO_0.out (x5_1 : Int) p5 q5;replace p5:=eq_true p5;replace q5:=eq_true q5;have HP7:=Kd.R_putg HO_0.out (x5_1 : Int) x1_1;go_wp2_with (first | ((with_reducible refine gate_store (t:=3) (p:=15) rfl ?_);refine store_event (t:=3) (p:=15) (v:=?vo_w8) (w1:=(wr.setCell ⟨go5,(x5_1 : Int).toNat,none⟩ (.int .i64 x1_1))) ?hg ?ho ?hn ?hr ?_;(case ho=>rfl);(case hg=>rfl);(case hn=>rfl);(case hr=>first | (go_simp;done) | (go_simp;rfl));intro w8 hw;have hg : wr.grownBy w8 (some go5):=(by rw [hw];exact HP7.2);have hp_ : Kd.R (Kd.int .i64) 3 w8 w0.heap.size (fun k_=>(P0_ k_ ∨ w.heap.size ≤ k_)) (.slice (some ⟨go5,0,none⟩) x0_1.length co6) y123:=(by rw [hw,Ny123.out];exact HP7.1);clear HP7;have n0_:=Aside0.mk (hp_);have n1_:=Aside0.mk ((by rw [hw];exact below_set (HB.out) GB5.out : Below w0.heap.size w0 w8));have n2_:=Aside0.mk (Kept.of_grown (S:=(fun k_=>P0_ k_)) hg (by repeat (first | (with_reducible first | exact HK.out | apply Kept.alloc | apply Kept.drewN | apply Kept.drew) | exact HK.out)) (fun k_ e_=>(HO_0.out.1 k_ e_)));clear HO_0;clear HB;clear HK;have HO_0:=n0_;have HB:=n1_;have HK:=n2_;clear n0_ n1_ n2_;clear hg hw hp_));go_roundg k1;case measure=>have:=HK1.out;omega
     case rel=>exact ⟨(y123),(wrap64 (x1_1 + 1)),(wrap64 (x5_1 + 1)),(by first | rfl | (simp;done) | (simp [*];done)),(by first | rfl | (simp;done) | (simp [*];done)),H',⟨by have:=HK1.out;omega⟩,⟨rs HO_0⟩,⟨by repeat (first | (with_reducible first | exact HK.out | apply Kept.alloc | apply Kept.drewN | apply Kept.drew) | exact HK.out)⟩,⟨hs HB⟩⟩
    rw [if_neg c4] at H;exact absurd H (by simp)
   rw [if_neg c3] at H;have c3b0 : decide (x5_1 < (x0_1.length : Int)) = false:=decide_eq_false c3;clear c3;simp only [Option.some.injEq,Prod.mk.injEq] at H;obtain ⟨rfl,rfl⟩:=H;obtain ⟨Ao9,co9,eo9⟩:=Kd.R_slice HO_0.out;subst eo9
   go_wp2
   go_ret
   exact ⟨by first | rfl | (simp [errW_none,errW_some] <;> rfl) | (simp [*,errW_none,errW_some] <;> rfl),rs HO_0,hs HB,by repeat (first | (with_reducible first | exact HK.out | apply Kept.alloc | apply Kept.drewN | apply Kept.drew) | exact HK.out)⟩
end Go.Proofs.Ytijbejiajaiciaa.PC

namespace Go.Proofs.Ytijbejiajaiciaa.PC
open Go.RowKit Go.Proofs.YtijbejiajaiciaaW.PrintWords Go.Proofs.YtijbejiajaiciaaW.PrintLast Go.Proofs.YtijbejiajaiciaaW.PrintMore
attribute [local go_sem] max2_int min2_int max_two min_two max_three min_three max_four min_four   -- for this text's walks alone
set_option linter.unusedVariables false
set_option linter.unusedSimpArgs false
def laws_heldIntS.l0 : Nat → List Int → Int → Int → Option (Int)
 | 0,_,_,_=>none
 | k + 1,x0,x1,x5=>if x5 < (x0.length : Int) then (if 0 ≤ x5 then (if (rd x0 x5) = x1 then (laws_heldIntS.l0 k x0 (wrap64 (x1 + 1)) (wrap64 (x5 + 1))) else (some (-1))) else (none)) else (some x1)
def laws_heldIntS.f (k : Nat) (l0 : List Int) (a1 : Int) : Option (Int):=laws_heldIntS.l0 k l0 a1 0
theorem laws_heldIntS.mono_l : ∀ k,(∀ y0 y1 y2,LeO (laws_heldIntS.l0 k y0 y1 y2) (laws_heldIntS.l0 (k + 1) y0 y1 y2))
 | 0=>fun _ _ _ r h=>by simp [laws_heldIntS.l0] at h
 | k + 1=>by
  have ih0:=laws_heldIntS.mono_l k;intro y0 y1 y2;unfold laws_heldIntS.l0
  repeat' first
  | (with_reducible exact ih0 _ _ _)
  | (with_reducible exact LeO.refl _)
  | (with_reducible exact LeO.none _)
  | (with_reducible refine LeO.ite ?_ ?_)
  | (with_reducible refine LeO.bind ?_ (fun _=>?_))
  | exact ih0 _ _ _
  | exact LeO.none _
  | refine LeO.ite ?_ ?_
  | refine LeO.bind ?_ (fun _=>?_)
theorem laws_heldIntS.mono : ∀ a0 a1 k,LeO (laws_heldIntS.f k a0 a1) (laws_heldIntS.f (k + 1) a0 a1):=by
 intro a0 a1 k;have ih0:=laws_heldIntS.mono_l k;unfold laws_heldIntS.f
 repeat' first
   | (with_reducible exact ih0 _ _ _)
   | (with_reducible exact LeO.refl _)
   | (with_reducible exact LeO.none _)
   | (with_reducible refine LeO.ite ?_ ?_)
   | (with_reducible refine LeO.bind ?_ (fun _=>?_))
   | exact ih0 _ _ _
   | exact LeO.none _
   | refine LeO.ite ?_ ?_
   | refine LeO.bind ?_ (fun _=>?_)
set_option maxHeartbeats 8000000 in
set_option maxRecDepth 100000 in
theorem laws_heldIntS.calls (k : Nat) (A0 : Option Addr) (c0 : Nat) (l0 : List Int) (a1 : Int) (r : Int) (w : World) (hr0 : Kd.C (Kd.int .i64) w A0 l0.length l0) (hc0 : l0.length ≤ c0) (h : laws_heldIntS.f k l0 a1 = some r) :
  Calls Try.prog 30 #[.slice A0 l0.length c0,.int .i64 a1] w fun e w'=>e = .returned (.int .i64 r) ∧ Drawn0 w w':=by
 have HR0:=Aside0.mk hr0;have HC0:=Aside0.mk hc0;clear hr0 hc0;have H : (laws_heldIntS.l0 k l0 a1 0) = some r:=h;clear h;have H':=Aside0.mk H;clear H
 go_enter Try.func30,Try.ntmps30
 go_wp2
 go_loopg [1,5] k (fun kq v1 v5 w'=>∃ (x1_1 : Int) (x5_1 : Int),v1 = .int .i64 x1_1 ∧ v5 = .int .i64 x5_1 ∧ Aside0 (laws_heldIntS.l0 kq l0 x1_1 x5_1 = some r) ∧ Aside0 (kq ≤ k) ∧ Drawn0 w w');case atStart=>exact ⟨(a1),(0),(by first | rfl | (simp;done) | (simp [*];done)),(by first | rfl | (simp;done) | (simp [*];done)),H',⟨Nat.le_refl _⟩,by repeat (first | exact Drawn0.refl _ | apply Drawn0.step)⟩
 case round =>
  clear H'
  try clear p2
  obtain ⟨x1_1,x5_1,rfl,rfl,HA,HK1,⟨m1,rfl⟩⟩:=hrel;cases gk with
  | zero=>exact absurd HA.out (by simp [laws_heldIntS.l0])
  | succ k1 =>
   have H:=HA.out;clear HA;simp only [laws_heldIntS.l0] at H
   by_cases c3 : x5_1 < (l0.length : Int)
   ·rw [if_pos c3] at H;have c3b0 : decide (x5_1 < (l0.length : Int)) = true:=decide_eq_true c3;clear c3
    by_cases c4 : 0 ≤ x5_1
    ·rw [if_pos c4] at H;have c4b0 : decide (0 ≤ x5_1) = true:=decide_eq_true c4;clear c4
     by_cases c5 : (rd l0 x5_1) = x1_1
     ·rw [if_pos c5] at H;have c5b0 : ((rd l0 x5_1) == x1_1) = true:=beq_iff_eq.mpr c5;have c5b1 : ((rd l0 x5_1) != x1_1) = false:=bne_eq_false_iff_eq.mpr c5;clear c5;have H':=Aside0.mk H;clear H;have p134 : 0 ≤ (x5_1 : Int):=of_decide_eq_true (by first | (with_reducible assumption) | assumption);have q134 : x5_1 < (l0.length : Int):=of_decide_eq_true (by first | (with_reducible assumption) | assumption);obtain ⟨ad134,e134,hx134_0⟩:=Kd.at_int HR0.out x5_1 p134 q134;cases e134;replace p134:=eq_true p134;replace q134:=eq_true q134
      go_wp2
      go_roundg k1;case measure=>have:=HK1.out;omega
      case rel=>exact ⟨(wrap64 (x1_1 + 1)),(wrap64 (x5_1 + 1)),(by first | rfl | (simp;done) | (simp [*];done)),(by first | rfl | (simp;done) | (simp [*];done)),H',⟨by have:=HK1.out;omega⟩,by repeat (first | exact Drawn0.refl _ | apply Drawn0.step)⟩
     rw [if_neg c5] at H;have c5b0 : ((rd l0 x5_1) == x1_1) = false:=beq_eq_false_iff_ne.mpr c5;have c5b1 : ((rd l0 x5_1) != x1_1) = true:=bne_iff_ne.mpr c5;obtain rfl:=Option.some.inj H;have p134 : 0 ≤ (x5_1 : Int):=of_decide_eq_true (by first | (with_reducible assumption) | assumption);have q134 : x5_1 < (l0.length : Int):=of_decide_eq_true (by first | (with_reducible assumption) | assumption);obtain ⟨ad134,e134,hx134_0⟩:=Kd.at_int HR0.out x5_1 p134 q134;cases e134;replace p134:=eq_true p134;replace q134:=eq_true q134
     go_wp2
     go_ret
     exact ⟨by first | rfl | (simp;done) | (simp [*];done),by repeat (first | exact Drawn0.refl _ | apply Drawn0.step)⟩
    rw [if_neg c4] at H;exact absurd H (by simp)
   rw [if_neg c3] at H;have c3b0 : decide (x5_1 < (l0.length : Int)) = false:=decide_eq_false c3;clear c3;obtain rfl:=Option.some.inj H
   go_wp2
   go_ret
   exact ⟨by first | rfl | (simp;done) | (simp [*];done),by repeat (first | exact Drawn0.refl _ | apply Drawn0.step)⟩
end Go.Proofs.Ytijbejiajaiciaa.PC

/- Marks: what a row's places are marked with is held there again, and the count goes on alike. -/
namespace Go.Proofs.Ytijbejiajaiciaa.Pu
set_option linter.unusedVariables false
set_option linter.unusedSimpArgs false
open Go.RowKit Go.Proofs.Ytijbejiajaiciaa.PC Go.Proofs.YtijbejiajaiciaaW.PrintWords

theorem getD_set_self {α : Type} {xs : List α} {i : Nat} {x z : α} (h : i < xs.length) : (xs.set i x).getD i z = x := by
  rw [List.getD_eq_getElem?_getD, List.getElem?_set_self h]; rfl
theorem getD_set_ne {α : Type} {xs : List α} {i j : Nat} {x z : α} (h : i ≠ j) : (xs.set i x).getD j z = xs.getD j z := by
  rw [List.getD_eq_getElem?_getD, List.getD_eq_getElem?_getD, List.getElem?_set_ne h]
/-- A row that is marked place by place, and held so. -/
theorem ev_mark {α : Type} (z : α) {L : Nat → List α → Int → Int → Option (Int × List α)} {Hd : Nat → List α → Int → Int → Option Int} (E : Nat → α → Int → Option (Int × α)) (G : Nat → α → Int → Option Int) (c : Int) (P : α → Prop)
    (hL : ∀ k (xs : List α) (a : Int) (i : Nat), i < xs.length → 0 ≤ a → a + c ≤ 4611686018427387904 → L (k + 1) xs a (i : Int) = (E k (xs.getD i z) a).bind fun b => L k (xs.set i b.2) b.1 (wrap64 ((i : Int) + 1)))
    (hL0 : ∀ k (xs : List α) (a : Int) (i : Nat), xs.length ≤ i → L (k + 1) xs a (i : Int) = some (a, xs))
    (hH : ∀ k (xs : List α) (a : Int) (i : Nat), i < xs.length → 0 ≤ a → a + c ≤ 4611686018427387904 → Hd (k + 1) xs a (i : Int) = (G k (xs.getD i z) a).bind fun t => if t < 0 then some (-1) else Hd k xs t (wrap64 ((i : Int) + 1)))
    (hH0 : ∀ k (xs : List α) (a : Int) (i : Nat), xs.length ≤ i → Hd (k + 1) xs a (i : Int) = some a)
    (hc : 0 ≤ c)
    (hE : ∀ x a, P x → 0 ≤ a → a + c ≤ 4611686018427387904 → ∃ a' x', Ev (fun k => E k x a) (a', x') ∧ Ev (fun k => G k x' a) a' ∧ a ≤ a' ∧ a' ≤ a + c) :
    ∀ (d i : Nat) (xs : List α) (a : Int), i + d = xs.length → xs.length ≤ 9223372036854775807 → (∀ j, i ≤ j → j < xs.length → P (xs.getD j z)) → 0 ≤ a → a + d * c ≤ 4611686018427387904 →
      ∃ a' xs', xs'.length = xs.length ∧ (∀ j, j < i → xs'.getD j z = xs.getD j z) ∧ Ev (fun k => L k xs a (i : Int)) (a', xs') ∧ Ev (fun k => Hd k xs' a (i : Int)) a' ∧ a ≤ a' ∧ a' ≤ a + d * c := by
  intro d
  induction d with
  | zero =>
    intro i xs a hi hn hP ha hM
    exact ⟨a, xs, rfl, fun _ _ => rfl, ev_some fun k => hL0 k xs a i (by omega), ev_some fun k => hH0 k xs a i (by omega), Int.le_refl _, by simp⟩
  | succ d ih =>
    intro i xs a hi hn hP ha hM
    have hdc : 0 ≤ (d : Int) * c := Int.mul_nonneg (by omega) hc
    have hds : ((d + 1 : Nat) : Int) * c = (d : Int) * c + c := by rw [Int.natCast_add, Int.add_mul]; simp
    rw [hds] at hM
    obtain ⟨a1, x1, hE1, hG1, h1, h2⟩ := hE (xs.getD i z) a (hP i (Nat.le_refl _) (by omega)) ha (by omega)
    have hlen : (xs.set i x1).length = xs.length := List.length_set
    obtain ⟨a', xs', hl', hb', hL', hH', h3, h4⟩ := ih (i + 1) (xs.set i x1) a1 (by rw [hlen]; omega) (by rw [hlen]; exact hn) (fun j hj hj2 => by
      rw [hlen] at hj2
      rw [getD_set_ne (by omega)]
      exact hP j (by omega) hj2) (by omega) (by omega)
    have hxi : xs'.getD i z = x1 := by rw [hb' i (by omega), getD_set_self (by omega)]
    refine ⟨a', xs', by rw [hl', hlen], fun j hj => by rw [hb' j (by omega), getD_set_ne (by omega)], ?_, ?_, by omega, by rw [hds]; omega⟩
    · refine Ev.step (fun k => hL k xs a i (by omega) ha (by omega)) (ev_bind hE1 ?_)
      simp only [wsucc (n := xs.length) (i := i) (by omega) hn]
      exact hL'
    · refine Ev.step (fun k => hH k xs' a i (by rw [hl', hlen]; omega) ha (by omega)) ?_
      rw [hxi]
      refine ev_bind hG1 ?_
      simp only [if_neg (show ¬ a1 < 0 by omega), wsucc (n := xs.length) (i := i) (by omega) hn]
      exact hH'

/-- A row that is marked place by place. -/
theorem ev_mark1 {α : Type} (z : α) {L : Nat → List α → Int → Int → Option (Int × List α)} (E : Nat → α → Int → Option (Int × α)) (c : Int)
    (hL : ∀ k (xs : List α) (a : Int) (i : Nat), i < xs.length → 0 ≤ a → a + c ≤ 4611686018427387904 → L (k + 1) xs a (i : Int) = (E k (xs.getD i z) a).bind fun b => L k (xs.set i b.2) b.1 (wrap64 ((i : Int) + 1)))
    (hL0 : ∀ k (xs : List α) (a : Int) (i : Nat), xs.length ≤ i → L (k + 1) xs a (i : Int) = some (a, xs)) (hc : 0 ≤ c)
    (hE : ∀ x a, 0 ≤ a → a + c ≤ 4611686018427387904 → ∃ a' x', Ev (fun k => E k x a) (a', x') ∧ a ≤ a' ∧ a' ≤ a + c) :
    ∀ (d i : Nat) (xs : List α) (a : Int), i + d = xs.length → xs.length ≤ 9223372036854775807 → 0 ≤ a → a + d * c ≤ 4611686018427387904 →
      ∃ a' xs', Ev (fun k => L k xs a (i : Int)) (a', xs') ∧ a ≤ a' ∧ a' ≤ a + d * c := by
  intro d
  induction d with
  | zero =>
    intro i xs a hi hn ha hM
    exact ⟨a, xs, ev_some fun k => hL0 k xs a i (by omega), Int.le_refl _, by simp⟩
  | succ d ih =>
    intro i xs a hi hn ha hM
    have hdc : 0 ≤ (d : Int) * c := Int.mul_nonneg (by omega) hc
    have hds : ((d + 1 : Nat) : Int) * c = (d : Int) * c + c := by rw [Int.natCast_add, Int.add_mul]; simp
    rw [hds] at hM
    obtain ⟨a1, x1, hE1, h1, h2⟩ := hE (xs.getD i z) a ha (by omega)
    have hlen : (xs.set i x1).length = xs.length := List.length_set
    obtain ⟨a', xs', hL', h3, h4⟩ := ih (i + 1) (xs.set i x1) a1 (by rw [hlen]; omega) (by rw [hlen]; exact hn) (by omega) (by omega)
    refine ⟨a', xs', ?_, by omega, by rw [hds]; omega⟩
    refine Ev.step (fun k => hL k xs a i (by omega) ha (by omega)) (ev_bind hE1 ?_)
    simp only [wsucc (n := xs.length) (i := i) (by omega) hn]
    exact hL'

/-- Whole numbers. -/
theorem mark_int (l : List Int) (a : Int) (hn : (l.length : Int) ≤ 1099511627776) (ha : 0 ≤ a) (hM : a + l.length ≤ 4611686018427387904) :
    ∃ a' l', l'.length = l.length ∧ Ev (fun k => laws_markIntS.f k l a) (a', l') ∧ Ev (fun k => laws_heldIntS.f k l' a) a' ∧ a ≤ a' ∧ a' ≤ a + l.length := by
  obtain ⟨a', l', h1, _, h2, h3, h4, h5⟩ := ev_mark (0 : Int) (L := fun k xs a i => laws_markIntS.l0 k xs a i) (Hd := fun k xs a i => laws_heldIntS.l0 k xs a i)
    (fun _ _ a => some (wrap64 (a + 1), a)) (fun _ x a => if x = a then some (wrap64 (a + 1)) else some (-1)) 1 (fun _ => True)
    (fun k xs a i hi _ _ => by
      simp only [laws_markIntS.l0]
      rw [if_pos (by omega), if_pos (by omega)]
      rfl)
    (fun k xs a i hi => by
      simp only [laws_markIntS.l0]
      rw [if_neg (by omega)])
    (fun k xs a i hi h0 h1 => by
      simp only [laws_heldIntS.l0]
      rw [if_pos (by omega), if_pos (by omega)]
      show (if xs.getD i 0 = a then _ else _) = _
      by_cases h : xs.getD i 0 = a
      · rw [if_pos h, if_pos h, w64 (by omega) (by omega)]
        simp only [Option.bind_some]
        rw [if_neg (by omega)]
      · rw [if_neg h, if_neg h]
        rfl)
    (fun k xs a i hi => by
      simp only [laws_heldIntS.l0]
      rw [if_neg (by omega)])
    (by omega)
    (fun x a _ h0 h1 => ⟨a + 1, a, ev_const (by rw [w64 (by omega) (by omega)]), ev_const (by rw [if_pos rfl, w64 (by omega) (by omega)]), by omega, by omega⟩)
    l.length 0 l a (by omega) (by omega) (fun _ _ _ => trivial) ha (by omega)
  exact ⟨a', l', h1, h2, h3, h4, by omega⟩
end Go.Proofs.Ytijbejiajaiciaa.Pu

namespace Go.Proofs.Ytijbejiajaiciaa.PC
open Go.RowKit Go.Proofs.YtijbejiajaiciaaW.PrintWords Go.Proofs.YtijbejiajaiciaaW.PrintLast Go.Proofs.YtijbejiajaiciaaW.PrintMore
attribute [local go_sem] max2_int min2_int max_two min_two max_three min_three max_four min_four   -- for this text's walks alone
set_option linter.unusedVariables false
set_option linter.unusedSimpArgs false
def spec_DoSteps.l0 : Nat → List (S69) → Int → List (S112) → Option ((List (S112)) × Int)
 | 0,_,_,_=>none
 | k + 1,x1,x7,x744000=>if x7 < (x1.length : Int) then (if 0 ≤ x7 then ((spec_DoStep.f k x744000 ((rd_T69 x1 x7).f0) ((rd_T69 x1 x7).f1) ((rd_T69 x1 x7).f2) ((rd_T69 x1 x7).f3)).bind fun bt745=>(if bt745.2 = true then (spec_DoSteps.l0 k x1 (wrap64 (x7 + 1)) bt745.1) else (some (x744000,x7)))) else (none)) else (some (x744000,(x1.length : Int)))
def spec_DoSteps.f (k : Nat) (l0_0 : List (S112)) (l1 : List (S69)) : Option ((List (S112)) × Int):=(spec_l05Copy.f k l0_0).bind fun t740=>(spec_DoSteps.l0 k l1 0 t740)
theorem spec_DoSteps.mono_l : ∀ k,(∀ y0 y1 y2,LeO (spec_DoSteps.l0 k y0 y1 y2) (spec_DoSteps.l0 (k + 1) y0 y1 y2))
 | 0=>fun _ _ _ r h=>by simp [spec_DoSteps.l0] at h
 | k + 1=>by
  have ih0:=spec_DoSteps.mono_l k;intro y0 y1 y2;unfold spec_DoSteps.l0
  repeat' first
  | (with_reducible exact ih0 _ _ _)
  | (with_reducible exact spec_DoStep.mono _ _ _ _ _ _)
  | (with_reducible exact spec_l05Copy.mono _ _)
  | (with_reducible exact LeO.refl _)
  | (with_reducible exact LeO.none _)
  | (with_reducible refine LeO.ite ?_ ?_)
  | (with_reducible refine LeO.bind ?_ (fun _=>?_))
  | exact ih0 _ _ _
  | exact spec_DoStep.mono _ _ _ _ _ _
  | exact spec_l05Copy.mono _ _
  | exact LeO.none _
  | refine LeO.ite ?_ ?_
  | refine LeO.bind ?_ (fun _=>?_)
theorem spec_DoSteps.mono : ∀ a0 a1 k,LeO (spec_DoSteps.f k a0 a1) (spec_DoSteps.f (k + 1) a0 a1):=by
 intro a0 a1 k;have ih0:=spec_DoSteps.mono_l k;unfold spec_DoSteps.f
 repeat' first
   | (with_reducible exact ih0 _ _ _)
   | (with_reducible exact spec_DoStep.mono _ _ _ _ _ _)
   | (with_reducible exact spec_l05Copy.mono _ _)
   | (with_reducible exact LeO.refl _)
   | (with_reducible exact LeO.none _)
   | (with_reducible refine LeO.ite ?_ ?_)
   | (with_reducible refine LeO.bind ?_ (fun _=>?_))
   | exact ih0 _ _ _
   | exact spec_DoStep.mono _ _ _ _ _ _
   | exact spec_l05Copy.mono _ _
   | exact LeO.none _
   | refine LeO.ite ?_ ?_
   | refine LeO.bind ?_ (fun _=>?_)
def spec_DoSteps.T5 : Bool × List (List Nat × List Nat):=(true,[([],[]),([],[]),([],[]),([1,2],[1,2]),([3],[3]),([0,4],[0,4]),([5],[5]),([6],[6]),([6],[6]),([],[]),([9,7,5,0,1,2,3,4,5,6,7,9],[7,9]),([8,10,0,1,2,3,4,5,6,7,8,9,10],[8])])
def spec_DoSteps.B5 : List Nat:=[0,0,0,6,14,31,63,127,127,0,767,2047]
theorem spec_DoSteps.tab5 : rtab .any (opsOf Try.f50 5) = spec_DoSteps.T5:=by kernel_rfl
theorem spec_DoSteps.bits5 : waitsOk spec_DoSteps.T5.2 spec_DoSteps.B5 = true:=by kernel_rfl
set_option maxHeartbeats 8000000 in
set_option maxRecDepth 100000 in
theorem spec_DoSteps.calls (k : Nat) (A0_0 : Option Addr) (c0_0 : Nat) (l0_0 : List (S112)) (A1 : Option Addr) (c1 : Nat) (l1 : List (S69)) (r1 : List (S112)) (r2 : Int) (w : World) (hr0_0 : Kd.C k112 w A0_0 l0_0.length l0_0) (hc0_0 : l0_0.length ≤ c0_0) (hr1 : Kd.C k69 w A1 l1.length l1) (hc1 : l1.length ≤ c1) (h : spec_DoSteps.f k l0_0 l1 = some (r1,r2)) :
  Calls Try.prog 50 #[.agg #[.slice A0_0 l0_0.length c0_0],.slice A1 l1.length c1] w fun e w'=>∃ v0_ : Value,e = .returned (.tuple #[.agg #[v0_],.int .i64 r2]) ∧ Kd.S k112 112 w' w.heap.size (fun _=>True) v0_ r1 ∧ Below w.heap.size w w':=by
 have hu59:=Try.underlying59;have hu69:=Try.underlying69;have HR0_0:=Aside0.mk hr0_0;have HC0_0:=Aside0.mk hc0_0;clear hr0_0 hc0_0;have HR1:=Aside0.mk hr1;have HC1:=Aside0.mk hc1;clear hr1 hc1;have HB:=Aside0.mk (Below.refl w.heap.size w);have H : ((spec_l05Copy.f k l0_0).bind fun t740=>(spec_DoSteps.l0 k l1 0 t740)) = some (r1,r2):=h;clear h;replace H:=Option.bind_eq_some_iff.mp H;obtain ⟨t740,A30,H⟩:=H;replace H : (spec_DoSteps.l0 k l1 0 t740) = some (r1,r2):=H;have A3:=Aside0.mk A30;clear A30;have H':=Aside0.mk H;clear H
 go_enter Try.func50,Try.ntmps50
 go_wp2_with (first | ((with_reducible refine gate_dst (N:=2) rfl ?_);refine box_event ?hg (N:=2) ?hd (cs:=#[.slice A0_0 l0_0.length c0_0]) (t:=59) ?hr ?_;(case hd=>rfl);(case hg=>rfl);(case hr=>first | (go_simp;done) | (go_simp;rfl));intro gb738 hg w4 hbox hb;have n0_:=Aside0.mk (below_step (hs HB) hb);have n1_:=Aside0.mk (hbox);have n2_:=Aside0.mk ((by rw [hg];exact (below_size (hs HB)) : w.heap.size ≤ gb738));have n3_:=Aside0.mk ((by rw [hg];exact (below_size (hs HB)) : w.heap.size ≤ gb738));clear HB;have HB:=n0_;have BK738:=n1_;have GW738:=n2_;have GE738:=n3_;clear n0_ n1_ n2_ n3_;clear hb hbox hg) | ((with_reducible refine gate_dst (N:=4) rfl ?_);refine box_event ?hg (N:=4) ?hd (cs:=#[.slice none 0 0]) (t:=59) ?hr ?_;(case hd=>rfl);(case hg=>rfl);(case hr=>first | (go_simp;done) | (go_simp;rfl));intro gb739 hg w5 hbox hb;have n0_:=Aside0.mk (blk_below (g:=gb738) (o:=.cells #[.slice A0_0 l0_0.length c0_0] 59 (0,0)) (bs BK738) hb);have n1_:=Aside0.mk (below_step (hs1 HB GE738) hb);have n2_:=Aside0.mk (hbox);have n3_:=Aside0.mk ((by rw [hg];exact (below_size (hs1 HB GE738)) : w.heap.size ≤ gb739));have n4_:=Aside0.mk ((by rw [hg];exact (below_size (hs1 HB GE738)) : w.heap.size ≤ gb739));have n5_:=Aside0.mk ((by rw [hg];exact Nat.ne_of_lt (blk_lt (g:=gb738) (o:=.cells #[.slice A0_0 l0_0.length c0_0] 59 (0,0)) (bs BK738)) : gb738 ≠ gb739));have n6_:=Aside0.mk ((by rw [hg];exact Nat.ne_of_gt (blk_lt (g:=gb738) (o:=.cells #[.slice A0_0 l0_0.length c0_0] 59 (0,0)) (bs BK738)) : gb739 ≠ gb738));clear BK738;clear HB;have BK738:=n0_;have HB:=n1_;have BK739:=n2_;have GW739:=n3_;have GE739:=n4_;have NB738_739:=n5_;have NB739_738:=n6_;clear n0_ n1_ n2_ n3_ n4_ n5_ n6_;clear hb hbox hg;have hnb6:=NB738_739.out;have hnc6:=NB739_738.out;have hcz7_0 : w5.cell? ⟨gb738,0,none⟩ = some (.slice A0_0 l0_0.length c0_0):=(blk_cell BK738.out 0).trans rfl;have hfz7_0:=blk_frozen BK738.out 0) | ((with_reducible refine gate_callee (f:=76) rfl ?_);refine goesL_ (some 11) rfl rfl Try.func76 (by kernel_rfl) rfl #[.agg #[.slice A0_0 l0_0.length c0_0]] rfl (by (try simp only [List.map_toArray,List.map_cons,List.map_nil]);first | done | rfl | (simp only [List.length_drop,List.length_take];rfl)) ?_;(with_reducible refine (spec_l05Copy.calls k _ _ l0_0 t740 _ ?side1 ?side2 A3.out).mono ?_);(case side1=>repeat (first | exact (Kd.C_below HR0_0.out HB.out) | (with_reducible refine Kd.C_alloc ?_ _) | (with_reducible refine Kd.C_drewN ?_ _) | (with_reducible refine Kd.C_drew ?_)));(case side2=>exact HC0_0.out);rintro e w8 ⟨v741,rfl,ho0,hb⟩;refine ⟨_,rfl,?_⟩;have n0_:=Aside0.mk (Kd.S_lower ho0 (below_size (hs2 HB GE738 GE739)));have n1_:=Aside0.mk (blk_below (g:=gb738) (o:=.cells #[.slice A0_0 l0_0.length c0_0] 59 (0,0)) (bs BK738) hb);have n2_:=Aside0.mk (blk_below (g:=gb739) (o:=.cells #[.slice none 0 0] 59 (0,0)) (bs BK739) hb);have n3_:=Aside0.mk (below_step (hs2 HB GE738 GE739) hb);clear BK738;clear BK739;clear HB;have HO742:=n0_;have BK738:=n1_;have BK739:=n2_;have HB:=n3_;clear n0_ n1_ n2_ n3_;(try clear hb);(try clear hb2);(try clear hk);(try clear hi);(try clear ho0)) | ((with_reducible refine gate_dst (N:=6) rfl ?_);refine box_event ?hg (N:=6) ?hd (cs:=#[.slice none 0 0]) (t:=59) ?hr ?_;(case hd=>rfl);(case hg=>rfl);(case hr=>first | (go_simp;done) | (go_simp;rfl));intro gb743 hg w9 hbox hb;have n0_:=Aside0.mk (Kd.S_below (ss HO742) hb);have n1_:=Aside0.mk (blk_below (g:=gb738) (o:=.cells #[.slice A0_0 l0_0.length c0_0] 59 (0,0)) (bs BK738) hb);have n2_:=Aside0.mk (blk_below (g:=gb739) (o:=.cells #[.slice none 0 0] 59 (0,0)) (bs BK739) hb);have n3_:=Aside0.mk (below_step (hs2 HB GE738 GE739) hb);have n4_:=Aside0.mk (hbox);have n5_:=Aside0.mk ((by rw [hg];exact (below_size (hs2 HB GE738 GE739)) : w.heap.size ≤ gb743));have n6_:=Aside0.mk ((by rw [hg];exact (below_size (hs2 HB GE738 GE739)) : w.heap.size ≤ gb743));have n7_:=Aside0.mk ((by rw [hg];exact Nat.ne_of_lt (blk_lt (g:=gb738) (o:=.cells #[.slice A0_0 l0_0.length c0_0] 59 (0,0)) (bs BK738)) : gb738 ≠ gb743));have n8_:=Aside0.mk ((by rw [hg];exact Nat.ne_of_gt (blk_lt (g:=gb738) (o:=.cells #[.slice A0_0 l0_0.length c0_0] 59 (0,0)) (bs BK738)) : gb743 ≠ gb738));have n9_:=Aside0.mk ((by rw [hg];exact Nat.ne_of_lt (blk_lt (g:=gb739) (o:=.cells #[.slice none 0 0] 59 (0,0)) (bs BK739)) : gb739 ≠ gb743));have n10_:=Aside0.mk ((by rw [hg];exact Nat.ne_of_gt (blk_lt (g:=gb739) (o:=.cells #[.slice none 0 0] 59 (0,0)) (bs BK739)) : gb743 ≠ gb739));clear HO742;clear BK738;clear BK739;clear HB;have HO742:=n0_;have BK738:=n1_;have BK739:=n2_;have HB:=n3_;have BK743:=n4_;have GW743:=n5_;have GE743:=n6_;have NB738_743:=n7_;have NB743_738:=n8_;have NB739_743:=n9_;have NB743_739:=n10_;clear n0_ n1_ n2_ n3_ n4_ n5_ n6_ n7_ n8_ n9_ n10_;clear hb hbox hg;obtain ⟨Ao10,co10,eo10⟩:=Kd.S_slice HO742.out;subst eo10;have hnb11:=NB743_738.out;have hnc11:=NB738_743.out;have hnb12:=NB743_739.out;have hnc12:=NB739_743.out;have hcz13_0 : w9.cell? ⟨gb743,0,none⟩ = some (.slice none 0 0):=(blk_cell BK743.out 0).trans rfl;have hfz13_0:=blk_frozen BK743.out 0));go_loopg [7] k (fun kq v7 w'=>∃ (x7_1 : Int) (x744000_1 : List (S112)) (u744000 : Value),v7 = .int .i64 x7_1 ∧ Aside0 (spec_DoSteps.l0 kq l1 x7_1 x744000_1 = some (r1,r2)) ∧ Aside0 (kq ≤ k) ∧ Aside0 (Kd.S k112 112 w' w.heap.size (fun _=>True) u744000 x744000_1) ∧ Aside0 (w'.heap[gb738]? = some (.cells #[(.slice A0_0 l0_0.length c0_0)] 59 (0,0))) ∧ Aside0 (w'.heap[gb739]? = some (.cells #[(.slice none 0 0)] 59 (0,0))) ∧ Aside0 (w'.heap[gb743]? = some (.cells #[u744000] 59 (0,0))) ∧ Aside0 (Below w.heap.size w w'));case atStart=>exact ⟨(0),(t740),(.slice Ao10 t740.length co10),(by first | rfl | (simp;done) | (simp [*];done)),H',⟨Nat.le_refl _⟩,⟨by (with_reducible repeat (first | apply Kd.S_alloc | apply Kd.S_drewN | apply Kd.S_drew));exact Kd.S_mono (Kd.S_far (p:=⟨gb743,0,none⟩) (Kd.S_types HO742.out BK743.out (by decide)) (fun _ hk=>hk.2) (.slice Ao10 t740.length co10)) (fun _ hk=>trivial)⟩,⟨by (with_reducible repeat (first | refine blk_drewN ?_ _ | refine blk_drew ?_ | refine blk_alloc ?_ _));refine blk_far ?_ NB738_743.out _;(with_reducible repeat (first | refine blk_drewN ?_ _ | refine blk_drew ?_ | refine blk_alloc ?_ _));exact BK738.out⟩,⟨by (with_reducible repeat (first | refine blk_drewN ?_ _ | refine blk_drew ?_ | refine blk_alloc ?_ _));refine blk_far ?_ NB739_743.out _;(with_reducible repeat (first | refine blk_drewN ?_ _ | refine blk_drew ?_ | refine blk_alloc ?_ _));exact BK739.out⟩,⟨by (with_reducible repeat (first | refine blk_drewN ?_ _ | refine blk_drew ?_ | refine blk_alloc ?_ _));refine blk_put (cs:=#[.slice none 0 0]) ?_ 0 _ rfl;(with_reducible repeat (first | refine blk_drewN ?_ _ | refine blk_drew ?_ | refine blk_alloc ?_ _));exact BK743.out⟩,⟨hs3 HB GE738 GE739 GE743⟩⟩
 case round =>
  clear H'
  try clear c1
  try clear p2
  try clear c5
  try clear c6
  try clear c7
  try clear c11
  try clear c12
  try clear hcz13_0
  try clear hcz7_0
  try clear hfz13_0
  try clear hfz7_0
  obtain ⟨x7_1,x744000_1,u744000,rfl,HA,HK1,HO_744000,BK738,BK739,BK743,HB⟩:=hrel;cases gk with
  | zero=>exact absurd HA.out (by simp [spec_DoSteps.l0])
  | succ k1 =>
   have H:=HA.out;clear HA;simp only [spec_DoSteps.l0] at H
   by_cases c14 : x7_1 < (l1.length : Int)
   ·rw [if_pos c14] at H;have c14b0 : decide (x7_1 < (l1.length : Int)) = true:=decide_eq_true c14;clear c14
    by_cases c15 : 0 ≤ x7_1
    ·rw [if_pos c15] at H;have c15b0 : decide (0 ≤ x7_1) = true:=decide_eq_true c15;clear c15;replace H:=Option.bind_eq_some_iff.mp H;obtain ⟨⟨t745,t748⟩,A160,H⟩:=H;replace H : (if t748 = true then (spec_DoSteps.l0 k1 l1 (wrap64 (x7_1 + 1)) t745) else (some (x744000_1,x7_1))) = some (r1,r2):=H;have A16:=Aside0.mk A160;clear A160
     by_cases c17 : t748 = true
     ·subst c17;have H1 : (spec_DoSteps.l0 k1 l1 (wrap64 (x7_1 + 1)) t745) = some (r1,r2):=by rw [if_pos rfl] at H;exact H
      clear H;have H:=H1;clear H1;have H':=Aside0.mk H;clear H;obtain ⟨Ao18,co18,eo18⟩:=Kd.S_slice HO_744000.out;subst eo18
      try go_wp2
      have n0_:=Aside0.mk (Kd.S_drew HO_744000.out);have n1_:=Aside0.mk (blk_drew BK738.out);have n2_:=Aside0.mk (blk_drew BK739.out);have n3_:=Aside0.mk (blk_drew BK743.out);have n4_:=Aside0.mk (below_drew1 HB.out);clear HO_744000;clear BK738;clear BK739;clear BK743;clear HB;have HO_744000:=n0_;have BK738:=n1_;have BK739:=n2_;have BK743:=n3_;have HB:=n4_;clear n0_ n1_ n2_ n3_ n4_;have p744 : 0 ≤ (x7_1 : Int):=of_decide_eq_true (by first | (with_reducible assumption) | assumption);have q744 : x7_1 < (l1.length : Int):=of_decide_eq_true (by first | (with_reducible assumption) | assumption);obtain ⟨ad744,e744,hx744_0,hx744_1,hx744_2,hx744_3⟩:=at_T69 HR1.out x7_1 p744 q744;have hw744_3:=hx744_3;have hw744_2:=hx744_2;have hw744_1:=hx744_1;have hw744_0:=hx744_0;cases e744;replace hx744_0:=(HB.out.cell (World.block_lt_of_cell? w _ hx744_0)).trans hx744_0;replace hx744_1:=(HB.out.cell (World.block_lt_of_cell? w _ hx744_1)).trans hx744_1;replace hx744_2:=(HB.out.cell (World.block_lt_of_cell? w _ hx744_2)).trans hx744_2;replace hx744_3:=(HB.out.cell (World.block_lt_of_cell? w _ hx744_3)).trans hx744_3;replace p744:=eq_true p744;replace q744:=eq_true q744;refine start_ (n:=12) (S:=fun w'=>w'.cell? ⟨gb743,0,none⟩ = some (.slice Ao18 x744000_1.length co18) ∧ w'.cell? (ad744.add ((x7_1).toNat * 4)) = some (.int .i64 ((rd_T69 l1 x7_1).f0)) ∧ w'.cell? ⟨(ad744.add ((x7_1).toNat * 4)).block,(ad744.add ((x7_1).toNat * 4)).off + 1,none⟩ = some (.int .i64 ((rd_T69 l1 x7_1).f1)) ∧ w'.cell? ⟨(ad744.add ((x7_1).toNat * 4)).block,(ad744.add ((x7_1).toNat * 4)).off + 2,none⟩ = some (.int .i64 ((rd_T69 l1 x7_1).f2)) ∧ w'.cell? ⟨(ad744.add ((x7_1).toNat * 4)).block,(ad744.add ((x7_1).toNat * 4)).off + 3,none⟩ = some (.string ((rd_T69 l1 x7_1).f3))) (ds:=[]) #[false,false,false,false,false,false,false,false,false,false,false,false] (by kernel_rfl) rfl rfl ⟨(blk_cell BK743.out 0).trans rfl,((HB.out.cell (World.block_lt_of_cell? w _ hw744_0)).trans hw744_0),((HB.out.cell (World.block_lt_of_cell? w _ hw744_1)).trans hw744_1),((HB.out.cell (World.block_lt_of_cell? w _ hw744_2)).trans hw744_2),((HB.out.cell (World.block_lt_of_cell? w _ hw744_3)).trans hw744_3)⟩ (fun hHeld=>?_);refine with_tabW spec_DoSteps.tab5 spec_DoSteps.bits5 (fun HT_ HW_=>?_);generalize wr.drew = w19 at HO_744000 BK738 BK739 BK743 HB hx744_0 hx744_1 hx744_2 hx744_3 hHeld ⊢;refine pure_ (i:=1) (N:=some 20) (v:=?_) (a':=?_) #[false,true,false,false,false,false,false,false,false,false,false,false] rfl rfl (any_of HT_.out (by kernel_rfl)) (fun _ _ _ h=>h) (Or.inl ⟨by rfl,?_⟩) ?_ ?_;rotate_left
      ·intro w';go_simp;with_reducible rfl
      rotate_left
      ·simp only [Act.put,List.setIfInBounds_toArray,List.set_cons_zero,List.set_cons_succ,i64_w,i32_w];rfl
      refine pure_ (i:=2) (N:=some 21) (v:=?_) (a':=?_) #[false,true,true,false,false,false,false,false,false,false,false,false] rfl rfl (any_of HT_.out (by kernel_rfl)) (fun _ _ _ h=>h) (Or.inl ⟨by rfl,?_⟩) ?_ ?_;rotate_left
      ·intro w';go_simp;with_reducible rfl
      rotate_left
      ·simp only [Act.put,List.setIfInBounds_toArray,List.set_cons_zero,List.set_cons_succ,i64_w,i32_w];rfl
      refine pure_ (i:=3) (N:=some 22) (v:=?_) (a':=?_) #[false,true,true,true,false,false,false,false,false,false,false,false] rfl rfl (any_of HT_.out (by kernel_rfl)) (fun _ _ _ h=>h) (Or.inl ⟨by rfl,?_⟩) ?_ ?_;rotate_left
      ·intro w';go_simp;with_reducible rfl
      rotate_left
      ·simp only [Act.put,List.setIfInBounds_toArray,List.set_cons_zero,List.set_cons_succ,i64_w,i32_w];rfl
      refine take_ (i:=0) (N:=some 19) (v:=?_) (a':=?_) #[true,true,true,true,false,false,false,false,false,false,false,false] rfl rfl (take_ofW HT_.out HW_.out (by kernel_rfl)) (fun _ _ _ h=>h) (Or.inl ⟨by rfl,?_⟩) hHeld ?_ ?_;rotate_left
      ·rintro w' ⟨s0,s1,s2,s3,s4⟩;go_simp;with_reducible rfl
      rotate_left
      ·simp only [Act.put,List.setIfInBounds_toArray,List.set_cons_zero,List.set_cons_succ,i64_w,i32_w];rfl
      refine take_ (i:=4) (N:=some 23) (v:=?_) (a':=?_) #[true,true,true,true,true,false,false,false,false,false,false,false] rfl rfl (take_ofW HT_.out HW_.out (by kernel_rfl)) (fun _ _ _ h=>h) (Or.inl ⟨by rfl,?_⟩) hHeld ?_ ?_;rotate_left
      ·rintro w' ⟨s0,s1,s2,s3,s4⟩;go_simp;with_reducible rfl
      rotate_left
      ·simp only [Act.put,List.setIfInBounds_toArray,List.set_cons_zero,List.set_cons_succ,i64_w,i32_w];rfl
      refine join_ (σ:=Value × Nat) 2 #[true,true,true,true,true,true,true,true,true,true,false,false] (fun s_=>[(24,.tuple #[.agg #[s_.1],.bool true]),(8,.pointer (some ⟨s_.2,0,none⟩)),(18,.tuple #[.agg #[s_.1],.bool true]),(25,.agg #[s_.1]),(26,.bool true)]) (fun s_ w'=>(w'.cell? ⟨gb743,0,none⟩ = some (.slice Ao18 x744000_1.length co18) ∧ w'.cell? (ad744.add ((x7_1).toNat * 4)) = some (.int .i64 ((rd_T69 l1 x7_1).f0)) ∧ w'.cell? ⟨(ad744.add ((x7_1).toNat * 4)).block,(ad744.add ((x7_1).toNat * 4)).off + 1,none⟩ = some (.int .i64 ((rd_T69 l1 x7_1).f1)) ∧ w'.cell? ⟨(ad744.add ((x7_1).toNat * 4)).block,(ad744.add ((x7_1).toNat * 4)).off + 2,none⟩ = some (.int .i64 ((rd_T69 l1 x7_1).f2)) ∧ w'.cell? ⟨(ad744.add ((x7_1).toNat * 4)).block,(ad744.add ((x7_1).toNat * 4)).off + 3,none⟩ = some (.string ((rd_T69 l1 x7_1).f3))) ∧ (Kd.S k112 112 w' w.heap.size (fun k_=>some k_ ≠ (.slice Ao18 x744000_1.length co18 : Value).ownBlock) s_.1 t745) ∧ (Kd.S k112 112 w' w.heap.size (fun k_=>some k_ ≠ (s_.1 : Value).ownBlock) (.slice Ao18 x744000_1.length co18) x744000_1) ∧ (w'.heap[gb738]? = some (.cells #[.slice A0_0 l0_0.length c0_0] 59 (0,0))) ∧ (w'.heap[gb739]? = some (.cells #[.slice none 0 0] 59 (0,0))) ∧ (w'.heap[gb743]? = some (.cells #[.slice Ao18 x744000_1.length co18] 59 (0,0))) ∧ (w'.heap[s_.2]? = some (.cells #[.slice none 0 0] 59 (0,0))) ∧ (w.heap.size ≤ s_.2) ∧ (w.heap.size ≤ s_.2) ∧ (gb738 ≠ s_.2) ∧ (s_.2 ≠ gb738) ∧ (gb739 ≠ s_.2) ∧ (s_.2 ≠ gb739) ∧ (gb743 ≠ s_.2) ∧ (s_.2 ≠ gb743) ∧ (Below w.heap.size w w')) ?_ ?_;rotate_left
      ·intro hCont;refine two_ (i:=5) (j:=9) (Ni:=some 24) (Nj:=some 8) #[true,true,true,true,true,true,false,false,false,false,false,false] #[true,true,true,true,true,false,false,false,false,true,false,false] rfl rfl rfl rfl (two_of HT_.out (by kernel_rfl)) (by decide) (by decide) (fun K hK=>?_) (fun K hK=>?_)
       ·skip
        refine goes_ Try.func38 (by kernel_rfl) rfl #[.agg #[.slice Ao18 x744000_1.length co18],.agg #[.int .i64 ((rd_T69 l1 x7_1).f0),.int .i64 ((rd_T69 l1 x7_1).f1),.int .i64 ((rd_T69 l1 x7_1).f2),.string ((rd_T69 l1 x7_1).f3)]] (by rfl) rfl rfl (by (try simp only [List.map_toArray,List.map_cons,List.map_nil]);first | done | rfl | (simp only [List.length_drop,List.length_take];rfl)) ?_;with_reducible refine (spec_DoStep.calls k1 _ _ x744000_1 ((rd_T69 l1 x7_1).f0) ((rd_T69 l1 x7_1).f1) ((rd_T69 l1 x7_1).f2) ((rd_T69 l1 x7_1).f3) t745 true _ ?side1 ?side2 A16.out).mono ?_
        (case side1=>repeat (first | exact (Kd.S_reads' HO_744000.out).2.2 | (with_reducible refine Kd.C_alloc ?_ _) | (with_reducible refine Kd.C_drewN ?_ _) | (with_reducible refine Kd.C_drew ?_)))
        (case side2=>exact (Kd.S_reads' HO_744000.out).2.1)
        rintro e w20 ⟨v746,rfl,ho0,hb⟩;refine ⟨_,rfl,?_⟩;have n0_:=Aside0.mk (Kd.S_elder' (ss HO_744000) (Kd.S_base ho0) hb);have n1_:=Aside0.mk (Kd.S_lower (Kd.S_new' ho0 (Kd.S_lt (ss HO_744000))) (below_size (hs3 HB GE738 GE739 GE743)));have n2_:=Aside0.mk (blk_below (g:=gb738) (o:=.cells #[.slice A0_0 l0_0.length c0_0] 59 (0,0)) (bs BK738) hb);have n3_:=Aside0.mk (blk_below (g:=gb739) (o:=.cells #[.slice none 0 0] 59 (0,0)) (bs BK739) hb);have n4_:=Aside0.mk (blk_below (g:=gb743) (o:=.cells #[.slice Ao18 x744000_1.length co18] 59 (0,0)) (bs BK743) hb);have n5_:=Aside0.mk (below_step (hs3 HB GE738 GE739 GE743) hb);clear HO_744000;clear BK738;clear BK739;clear BK743;clear HB;have HO_744000:=n0_;have HO747:=n1_;have BK738:=n2_;have BK739:=n3_;have BK743:=n4_;have HB:=n5_;clear n0_ n1_ n2_ n3_ n4_ n5_
        (try clear hb)
        (try clear hb2)
        (try clear hk)
        (try clear hi)
        (try clear ho0)
        refine hK.out _ _ ⟨(blk_cell BK743.out 0).trans rfl,((HB.out.cell (World.block_lt_of_cell? w _ hw744_0)).trans hw744_0),((HB.out.cell (World.block_lt_of_cell? w _ hw744_1)).trans hw744_1),((HB.out.cell (World.block_lt_of_cell? w _ hw744_2)).trans hw744_2),((HB.out.cell (World.block_lt_of_cell? w _ hw744_3)).trans hw744_3)⟩ (fun hHeld=>?_);clear hK K;refine norm_ (a':=?_) ?_ ?_;rotate_left
        ·show Act.put _ (some 24) _ = _;simp only [Act.put,List.setIfInBounds_toArray,List.set_cons_zero,List.set_cons_succ,i64_w,i32_w];rfl
        refine pure_ (i:=6) (N:=some 18) (v:=?_) (a':=?_) #[true,true,true,true,true,true,true,false,false,false,false,false] rfl rfl (any_of HT_.out (by kernel_rfl)) (fun _ _ _ h=>h) (Or.inl ⟨by rfl,?_⟩) ?_ ?_;rotate_left
        ·intro w';go_simp;with_reducible rfl
        rotate_left
        ·simp only [Act.put,List.setIfInBounds_toArray,List.set_cons_zero,List.set_cons_succ,i64_w,i32_w];rfl
        refine pure_ (i:=7) (N:=some 25) (v:=?_) (a':=?_) #[true,true,true,true,true,true,true,true,false,false,false,false] rfl rfl (any_of HT_.out (by kernel_rfl)) (fun _ _ _ h=>h) (Or.inl ⟨by rfl,?_⟩) ?_ ?_;rotate_left
        ·intro w';go_simp;with_reducible rfl
        rotate_left
        ·simp only [Act.put,List.setIfInBounds_toArray,List.set_cons_zero,List.set_cons_succ,i64_w,i32_w];rfl
        refine pure_ (i:=8) (N:=some 26) (v:=?_) (a':=?_) #[true,true,true,true,true,true,true,true,true,false,false,false] rfl rfl (any_of HT_.out (by kernel_rfl)) (fun _ _ _ h=>h) (Or.inl ⟨by rfl,?_⟩) ?_ ?_;rotate_left
        ·intro w';go_simp;with_reducible rfl
        rotate_left
        ·simp only [Act.put,List.setIfInBounds_toArray,List.set_cons_zero,List.set_cons_succ,i64_w,i32_w];rfl
        refine one_ (i:=9) (N:=some 8) #[true,true,true,true,true,true,true,true,true,true,false,false] rfl rfl (one_of HT_.out (by kernel_rfl)) (by decide) (fun K hK=>?_);refine box_step ?hg (N:=8) ?hd (cs:=#[.slice none 0 0]) (t:=59) ?hr ?_;(case hd=>rfl);(case hg=>rfl);(case hr=>first | (go_simp;done) | (go_simp;rfl));intro gb749 hg w21 hbox hb;have n0_:=Aside0.mk (Kd.S_below (ss HO_744000) hb);have n1_:=Aside0.mk (Kd.S_below (ss HO747) hb);have n2_:=Aside0.mk (blk_below (g:=gb738) (o:=.cells #[.slice A0_0 l0_0.length c0_0] 59 (0,0)) (bs BK738) hb);have n3_:=Aside0.mk (blk_below (g:=gb739) (o:=.cells #[.slice none 0 0] 59 (0,0)) (bs BK739) hb);have n4_:=Aside0.mk (blk_below (g:=gb743) (o:=.cells #[.slice Ao18 x744000_1.length co18] 59 (0,0)) (bs BK743) hb);have n5_:=Aside0.mk (below_step (hs3 HB GE738 GE739 GE743) hb);have n6_:=Aside0.mk (hbox);have n7_:=Aside0.mk ((by rw [hg];exact (below_size (hs3 HB GE738 GE739 GE743)) : w.heap.size ≤ gb749));have n8_:=Aside0.mk ((by rw [hg];exact (below_size (hs3 HB GE738 GE739 GE743)) : w.heap.size ≤ gb749));have n9_:=Aside0.mk ((by rw [hg];exact Nat.ne_of_lt (blk_lt (g:=gb738) (o:=.cells #[.slice A0_0 l0_0.length c0_0] 59 (0,0)) (bs BK738)) : gb738 ≠ gb749));have n10_:=Aside0.mk ((by rw [hg];exact Nat.ne_of_gt (blk_lt (g:=gb738) (o:=.cells #[.slice A0_0 l0_0.length c0_0] 59 (0,0)) (bs BK738)) : gb749 ≠ gb738));have n11_:=Aside0.mk ((by rw [hg];exact Nat.ne_of_lt (blk_lt (g:=gb739) (o:=.cells #[.slice none 0 0] 59 (0,0)) (bs BK739)) : gb739 ≠ gb749));have n12_:=Aside0.mk ((by rw [hg];exact Nat.ne_of_gt (blk_lt (g:=gb739) (o:=.cells #[.slice none 0 0] 59 (0,0)) (bs BK739)) : gb749 ≠ gb739));have n13_:=Aside0.mk ((by rw [hg];exact Nat.ne_of_lt (blk_lt (g:=gb743) (o:=.cells #[.slice Ao18 x744000_1.length co18] 59 (0,0)) (bs BK743)) : gb743 ≠ gb749));have n14_:=Aside0.mk ((by rw [hg];exact Nat.ne_of_gt (blk_lt (g:=gb743) (o:=.cells #[.slice Ao18 x744000_1.length co18] 59 (0,0)) (bs BK743)) : gb749 ≠ gb743));clear HO_744000;clear HO747;clear BK738;clear BK739;clear BK743;clear HB;have HO_744000:=n0_;have HO747:=n1_;have BK738:=n2_;have BK739:=n3_;have BK743:=n4_;have HB:=n5_;have BK749:=n6_;have GW749:=n7_;have GE749:=n8_;have NB738_749:=n9_;have NB749_738:=n10_;have NB739_749:=n11_;have NB749_739:=n12_;have NB743_749:=n13_;have NB749_743:=n14_;clear n0_ n1_ n2_ n3_ n4_ n5_ n6_ n7_ n8_ n9_ n10_ n11_ n12_ n13_ n14_;clear hb hbox hg;refine hK.out _ _ ⟨(blk_cell BK743.out 0).trans rfl,((HB.out.cell (World.block_lt_of_cell? w _ hw744_0)).trans hw744_0),((HB.out.cell (World.block_lt_of_cell? w _ hw744_1)).trans hw744_1),((HB.out.cell (World.block_lt_of_cell? w _ hw744_2)).trans hw744_2),((HB.out.cell (World.block_lt_of_cell? w _ hw744_3)).trans hw744_3)⟩ (fun hHeld=>?_);clear hK K;refine norm_ (a':=?_) ?_ ?_;rotate_left
        ·show Act.put _ (some 8) _ = _;simp only [Act.put,List.setIfInBounds_toArray,List.set_cons_zero,List.set_cons_succ,i64_w,i32_w];rfl
        exact norm_ (by simp only [putAll,Act.put,List.setIfInBounds_toArray,List.set_cons_zero,List.set_cons_succ]) (hCont (v746,gb749) _ ⟨hHeld,(by (with_reducible repeat (first | apply Kd.S_alloc | apply Kd.S_drewN | apply Kd.S_drew));exact Kd.S_mono HO747.out (fun _ hk=>hk.2)),(by (with_reducible repeat (first | apply Kd.S_alloc | apply Kd.S_drewN | apply Kd.S_drew));exact Kd.S_mono HO_744000.out (fun _ hk=>hk.2)),(bs BK738),(bs BK739),(bs BK743),(bs BK749),GW749.out,GE749.out,NB738_749.out,NB749_738.out,NB739_749.out,NB749_739.out,NB743_749.out,NB749_743.out,(hs4 HB GE738 GE739 GE743 GE749)⟩)
       skip
       refine box_step ?hg (N:=8) ?hd (cs:=#[.slice none 0 0]) (t:=59) ?hr ?_;(case hd=>rfl);(case hg=>rfl);(case hr=>first | (go_simp;done) | (go_simp;rfl));intro gb749 hg w20 hbox hb;have n0_:=Aside0.mk (Kd.S_below (ss HO_744000) hb);have n1_:=Aside0.mk (blk_below (g:=gb738) (o:=.cells #[.slice A0_0 l0_0.length c0_0] 59 (0,0)) (bs BK738) hb);have n2_:=Aside0.mk (blk_below (g:=gb739) (o:=.cells #[.slice none 0 0] 59 (0,0)) (bs BK739) hb);have n3_:=Aside0.mk (blk_below (g:=gb743) (o:=.cells #[.slice Ao18 x744000_1.length co18] 59 (0,0)) (bs BK743) hb);have n4_:=Aside0.mk (below_step (hs3 HB GE738 GE739 GE743) hb);have n5_:=Aside0.mk (hbox);have n6_:=Aside0.mk ((by rw [hg];exact (below_size (hs3 HB GE738 GE739 GE743)) : w.heap.size ≤ gb749));have n7_:=Aside0.mk ((by rw [hg];exact (below_size (hs3 HB GE738 GE739 GE743)) : w.heap.size ≤ gb749));have n8_:=Aside0.mk ((by rw [hg];exact Nat.ne_of_lt (blk_lt (g:=gb738) (o:=.cells #[.slice A0_0 l0_0.length c0_0] 59 (0,0)) (bs BK738)) : gb738 ≠ gb749));have n9_:=Aside0.mk ((by rw [hg];exact Nat.ne_of_gt (blk_lt (g:=gb738) (o:=.cells #[.slice A0_0 l0_0.length c0_0] 59 (0,0)) (bs BK738)) : gb749 ≠ gb738));have n10_:=Aside0.mk ((by rw [hg];exact Nat.ne_of_lt (blk_lt (g:=gb739) (o:=.cells #[.slice none 0 0] 59 (0,0)) (bs BK739)) : gb739 ≠ gb749));have n11_:=Aside0.mk ((by rw [hg];exact Nat.ne_of_gt (blk_lt (g:=gb739) (o:=.cells #[.slice none 0 0] 59 (0,0)) (bs BK739)) : gb749 ≠ gb739));have n12_:=Aside0.mk ((by rw [hg];exact Nat.ne_of_lt (blk_lt (g:=gb743) (o:=.cells #[.slice Ao18 x744000_1.length co18] 59 (0,0)) (bs BK743)) : gb743 ≠ gb749));have n13_:=Aside0.mk ((by rw [hg];exact Nat.ne_of_gt (blk_lt (g:=gb743) (o:=.cells #[.slice Ao18 x744000_1.length co18] 59 (0,0)) (bs BK743)) : gb749 ≠ gb743));clear HO_744000;clear BK738;clear BK739;clear BK743;clear HB;have HO_744000:=n0_;have BK738:=n1_;have BK739:=n2_;have BK743:=n3_;have HB:=n4_;have BK749:=n5_;have GW749:=n6_;have GE749:=n7_;have NB738_749:=n8_;have NB749_738:=n9_;have NB739_749:=n10_;have NB749_739:=n11_;have NB743_749:=n12_;have NB749_743:=n13_;clear n0_ n1_ n2_ n3_ n4_ n5_ n6_ n7_ n8_ n9_ n10_ n11_ n12_ n13_;clear hb hbox hg;refine hK.out _ _ ⟨(blk_cell BK743.out 0).trans rfl,((HB.out.cell (World.block_lt_of_cell? w _ hw744_0)).trans hw744_0),((HB.out.cell (World.block_lt_of_cell? w _ hw744_1)).trans hw744_1),((HB.out.cell (World.block_lt_of_cell? w _ hw744_2)).trans hw744_2),((HB.out.cell (World.block_lt_of_cell? w _ hw744_3)).trans hw744_3)⟩ (fun hHeld=>?_);clear hK K;refine norm_ (a':=?_) ?_ ?_;rotate_left
       ·show Act.put _ (some 8) _ = _;simp only [Act.put,List.setIfInBounds_toArray,List.set_cons_zero,List.set_cons_succ,i64_w,i32_w];rfl
       refine one_ (i:=5) (N:=some 24) #[true,true,true,true,true,true,false,false,false,true,false,false] rfl rfl (one_of HT_.out (by kernel_rfl)) (by decide) (fun K hK=>?_);refine goes_ Try.func38 (by kernel_rfl) rfl #[.agg #[.slice Ao18 x744000_1.length co18],.agg #[.int .i64 ((rd_T69 l1 x7_1).f0),.int .i64 ((rd_T69 l1 x7_1).f1),.int .i64 ((rd_T69 l1 x7_1).f2),.string ((rd_T69 l1 x7_1).f3)]] (by rfl) rfl rfl (by (try simp only [List.map_toArray,List.map_cons,List.map_nil]);first | done | rfl | (simp only [List.length_drop,List.length_take];rfl)) ?_;with_reducible refine (spec_DoStep.calls k1 _ _ x744000_1 ((rd_T69 l1 x7_1).f0) ((rd_T69 l1 x7_1).f1) ((rd_T69 l1 x7_1).f2) ((rd_T69 l1 x7_1).f3) t745 true _ ?side1 ?side2 A16.out).mono ?_
       (case side1=>repeat (first | exact (Kd.S_reads' HO_744000.out).2.2 | (with_reducible refine Kd.C_alloc ?_ _) | (with_reducible refine Kd.C_drewN ?_ _) | (with_reducible refine Kd.C_drew ?_)))
       (case side2=>exact (Kd.S_reads' HO_744000.out).2.1)
       rintro e w21 ⟨v746,rfl,ho0,hb⟩;refine ⟨_,rfl,?_⟩;have n0_:=Aside0.mk (Kd.S_elder' (ss HO_744000) (Kd.S_base ho0) hb);have n1_:=Aside0.mk (Kd.S_lower (Kd.S_new' ho0 (Kd.S_lt (ss HO_744000))) (below_size (hs4 HB GE738 GE739 GE743 GE749)));have n2_:=Aside0.mk (blk_below (g:=gb738) (o:=.cells #[.slice A0_0 l0_0.length c0_0] 59 (0,0)) (bs BK738) hb);have n3_:=Aside0.mk (blk_below (g:=gb739) (o:=.cells #[.slice none 0 0] 59 (0,0)) (bs BK739) hb);have n4_:=Aside0.mk (blk_below (g:=gb743) (o:=.cells #[.slice Ao18 x744000_1.length co18] 59 (0,0)) (bs BK743) hb);have n5_:=Aside0.mk (blk_below (g:=gb749) (o:=.cells #[.slice none 0 0] 59 (0,0)) (bs BK749) hb);have n6_:=Aside0.mk (below_step (hs4 HB GE738 GE739 GE743 GE749) hb);clear HO_744000;clear BK738;clear BK739;clear BK743;clear BK749;clear HB;have HO_744000:=n0_;have HO747:=n1_;have BK738:=n2_;have BK739:=n3_;have BK743:=n4_;have BK749:=n5_;have HB:=n6_;clear n0_ n1_ n2_ n3_ n4_ n5_ n6_
       (try clear hb)
       (try clear hb2)
       (try clear hk)
       (try clear hi)
       (try clear ho0)
       refine hK.out _ _ ⟨(blk_cell BK743.out 0).trans rfl,((HB.out.cell (World.block_lt_of_cell? w _ hw744_0)).trans hw744_0),((HB.out.cell (World.block_lt_of_cell? w _ hw744_1)).trans hw744_1),((HB.out.cell (World.block_lt_of_cell? w _ hw744_2)).trans hw744_2),((HB.out.cell (World.block_lt_of_cell? w _ hw744_3)).trans hw744_3)⟩ (fun hHeld=>?_);clear hK K;refine norm_ (a':=?_) ?_ ?_;rotate_left
       ·show Act.put _ (some 24) _ = _;simp only [Act.put,List.setIfInBounds_toArray,List.set_cons_zero,List.set_cons_succ,i64_w,i32_w];rfl
       refine pure_ (i:=6) (N:=some 18) (v:=?_) (a':=?_) #[true,true,true,true,true,true,true,false,false,true,false,false] rfl rfl (any_of HT_.out (by kernel_rfl)) (fun _ _ _ h=>h) (Or.inl ⟨by rfl,?_⟩) ?_ ?_;rotate_left
       ·intro w';go_simp;with_reducible rfl
       rotate_left
       ·simp only [Act.put,List.setIfInBounds_toArray,List.set_cons_zero,List.set_cons_succ,i64_w,i32_w];rfl
       refine pure_ (i:=7) (N:=some 25) (v:=?_) (a':=?_) #[true,true,true,true,true,true,true,true,false,true,false,false] rfl rfl (any_of HT_.out (by kernel_rfl)) (fun _ _ _ h=>h) (Or.inl ⟨by rfl,?_⟩) ?_ ?_;rotate_left
       ·intro w';go_simp;with_reducible rfl
       rotate_left
       ·simp only [Act.put,List.setIfInBounds_toArray,List.set_cons_zero,List.set_cons_succ,i64_w,i32_w];rfl
       refine pure_ (i:=8) (N:=some 26) (v:=?_) (a':=?_) #[true,true,true,true,true,true,true,true,true,true,false,false] rfl rfl (any_of HT_.out (by kernel_rfl)) (fun _ _ _ h=>h) (Or.inl ⟨by rfl,?_⟩) ?_ ?_;rotate_left
       ·intro w';go_simp;with_reducible rfl
       rotate_left
       ·simp only [Act.put,List.setIfInBounds_toArray,List.set_cons_zero,List.set_cons_succ,i64_w,i32_w];rfl
       exact norm_ (by simp only [putAll,Act.put,List.setIfInBounds_toArray,List.set_cons_zero,List.set_cons_succ]) (hCont (v746,gb749) _ ⟨hHeld,(by (with_reducible repeat (first | apply Kd.S_alloc | apply Kd.S_drewN | apply Kd.S_drew));exact Kd.S_mono HO747.out (fun _ hk=>hk.2)),(by (with_reducible repeat (first | apply Kd.S_alloc | apply Kd.S_drewN | apply Kd.S_drew));exact Kd.S_mono HO_744000.out (fun _ hk=>hk.2)),(bs BK738),(bs BK739),(bs BK743),(bs BK749),GW749.out,GE749.out,NB738_749.out,NB749_738.out,NB739_749.out,NB749_739.out,NB743_749.out,NB749_743.out,(hs4 HB GE738 GE739 GE743 GE749)⟩)
      rintro ⟨v746,gb749⟩ w22 ⟨hS_,h0_,h1_,h2_,h3_,h4_,h5_,h6_,h7_,h8_,h9_,h10_,h11_,h12_,h13_,h14_⟩;have n0_ : Aside0 (Kd.S k112 112 w22 w.heap.size (fun k_=>some k_ ≠ (.slice Ao18 x744000_1.length co18 : Value).ownBlock) v746 t745):=⟨h0_⟩;have n1_ : Aside0 (Kd.S k112 112 w22 w.heap.size (fun k_=>some k_ ≠ (v746 : Value).ownBlock) (.slice Ao18 x744000_1.length co18) x744000_1):=⟨h1_⟩;have n2_ : Aside0 (w22.heap[gb738]? = some (.cells #[.slice A0_0 l0_0.length c0_0] 59 (0,0))):=⟨h2_⟩;have n3_ : Aside0 (w22.heap[gb739]? = some (.cells #[.slice none 0 0] 59 (0,0))):=⟨h3_⟩;have n4_ : Aside0 (w22.heap[gb743]? = some (.cells #[.slice Ao18 x744000_1.length co18] 59 (0,0))):=⟨h4_⟩;have n5_ : Aside0 (w22.heap[gb749]? = some (.cells #[.slice none 0 0] 59 (0,0))):=⟨h5_⟩;have n6_ : Aside0 (w.heap.size ≤ gb749):=⟨h6_⟩;have n7_ : Aside0 (w.heap.size ≤ gb749):=⟨h7_⟩;have n8_ : Aside0 (gb738 ≠ gb749):=⟨h8_⟩;have n9_ : Aside0 (gb749 ≠ gb738):=⟨h9_⟩;have n10_ : Aside0 (gb739 ≠ gb749):=⟨h10_⟩;have n11_ : Aside0 (gb749 ≠ gb739):=⟨h11_⟩;have n12_ : Aside0 (gb743 ≠ gb749):=⟨h12_⟩;have n13_ : Aside0 (gb749 ≠ gb743):=⟨h13_⟩;have n14_ : Aside0 (Below w.heap.size w w22):=⟨h14_⟩;clear HO_744000;clear BK738;clear BK739;clear BK743;clear HB;clear h0_ h1_ h2_ h3_ h4_ h5_ h6_ h7_ h8_ h9_ h10_ h11_ h12_ h13_ h14_;have HO747:=n0_;have HO_744000:=n1_;have BK738:=n2_;have BK739:=n3_;have BK743:=n4_;have BK749:=n5_;have GW749:=n6_;have GE749:=n7_;have NB738_749:=n8_;have NB749_738:=n9_;have NB739_749:=n10_;have NB749_739:=n11_;have NB743_749:=n12_;have NB749_743:=n13_;have HB:=n14_;clear n0_ n1_ n2_ n3_ n4_ n5_ n6_ n7_ n8_ n9_ n10_ n11_ n12_ n13_ n14_;have hHeld : w22.cell? ⟨gb743,0,none⟩ = some (.slice Ao18 x744000_1.length co18) ∧ w22.cell? (ad744.add ((x7_1).toNat * 4)) = some (.int .i64 ((rd_T69 l1 x7_1).f0)) ∧ w22.cell? ⟨(ad744.add ((x7_1).toNat * 4)).block,(ad744.add ((x7_1).toNat * 4)).off + 1,none⟩ = some (.int .i64 ((rd_T69 l1 x7_1).f1)) ∧ w22.cell? ⟨(ad744.add ((x7_1).toNat * 4)).block,(ad744.add ((x7_1).toNat * 4)).off + 2,none⟩ = some (.int .i64 ((rd_T69 l1 x7_1).f2)) ∧ w22.cell? ⟨(ad744.add ((x7_1).toNat * 4)).block,(ad744.add ((x7_1).toNat * 4)).off + 3,none⟩ = some (.string ((rd_T69 l1 x7_1).f3)):=hS_;obtain ⟨Ao23,co23,eo23⟩:=Kd.S_slice HO747.out
      (first | subst eo23 | (injection eo23 with f1_ f2_ f3_;have f4_:=f1_.symm;have f5_:=f3_.symm;clear f1_ f2_ f3_;subst f4_;subst f5_))
      refine norm_ (a':=?_) ?_ ?_;rotate_left
      ·simp only [putAll,Act.put,List.setIfInBounds_toArray,List.set_cons_zero,List.set_cons_succ];rfl
      refine one_ (i:=10) (N:=none) #[true,true,true,true,true,true,true,true,true,true,true,false] rfl rfl (one_of HT_.out (by kernel_rfl)) (by decide) (fun K hK=>?_);have hs24 : w22.cell? ⟨gb749,0,none⟩ = some (.slice none 0 0):=(blk_cell BK749.out 0).trans rfl;have hfs24:=blk_frozen BK749.out 0;have hns24_0:=NB738_749.out;have hns24_1:=NB739_749.out;have hns24_2:=NB743_749.out;have hms24_0:=NB749_738.out;have hms24_1:=NB749_739.out;have hms24_2:=NB749_743.out;refine skip_ (w1:=?_) (by rfl) rfl ?_ ?_;rotate_left
      ·go_simp;rfl
      refine hK.out _ _ ⟨((cell_far (p:=⟨gb749,_,none⟩) NB743_749.out _).trans (hHeld.1)),((cell_far (p:=⟨gb749,_,none⟩) (by first | exact Nat.ne_of_lt (Nat.lt_of_lt_of_le (by have:=World.block_lt_of_cell? _ _ hw744_0;first | rwa [add_block] at this | exact this) GW749.out) | (rw [add_block];exact Nat.ne_of_lt (Nat.lt_of_lt_of_le (by have:=World.block_lt_of_cell? _ _ hw744_0;first | rwa [add_block] at this | exact this) GW749.out)) | (show (Addr.add _ _).block ≠ _;rw [add_block];exact Nat.ne_of_lt (Nat.lt_of_lt_of_le (by have:=World.block_lt_of_cell? _ _ hw744_0;first | rwa [add_block] at this | exact this) GW749.out)) | (dsimp only;exact Nat.ne_of_lt (Nat.lt_of_lt_of_le (by have:=World.block_lt_of_cell? _ _ hw744_0;first | rwa [add_block] at this | exact this) GW749.out))) _).trans (hHeld.2.1)),((cell_far (p:=⟨gb749,_,none⟩) (by first | exact Nat.ne_of_lt (Nat.lt_of_lt_of_le (by have:=World.block_lt_of_cell? _ _ hw744_1;first | rwa [add_block] at this | exact this) GW749.out) | (rw [add_block];exact Nat.ne_of_lt (Nat.lt_of_lt_of_le (by have:=World.block_lt_of_cell? _ _ hw744_1;first | rwa [add_block] at this | exact this) GW749.out)) | (show (Addr.add _ _).block ≠ _;rw [add_block];exact Nat.ne_of_lt (Nat.lt_of_lt_of_le (by have:=World.block_lt_of_cell? _ _ hw744_1;first | rwa [add_block] at this | exact this) GW749.out)) | (dsimp only;exact Nat.ne_of_lt (Nat.lt_of_lt_of_le (by have:=World.block_lt_of_cell? _ _ hw744_1;first | rwa [add_block] at this | exact this) GW749.out))) _).trans (hHeld.2.2.1)),((cell_far (p:=⟨gb749,_,none⟩) (by first | exact Nat.ne_of_lt (Nat.lt_of_lt_of_le (by have:=World.block_lt_of_cell? _ _ hw744_2;first | rwa [add_block] at this | exact this) GW749.out) | (rw [add_block];exact Nat.ne_of_lt (Nat.lt_of_lt_of_le (by have:=World.block_lt_of_cell? _ _ hw744_2;first | rwa [add_block] at this | exact this) GW749.out)) | (show (Addr.add _ _).block ≠ _;rw [add_block];exact Nat.ne_of_lt (Nat.lt_of_lt_of_le (by have:=World.block_lt_of_cell? _ _ hw744_2;first | rwa [add_block] at this | exact this) GW749.out)) | (dsimp only;exact Nat.ne_of_lt (Nat.lt_of_lt_of_le (by have:=World.block_lt_of_cell? _ _ hw744_2;first | rwa [add_block] at this | exact this) GW749.out))) _).trans (hHeld.2.2.2.1)),((cell_far (p:=⟨gb749,_,none⟩) (by first | exact Nat.ne_of_lt (Nat.lt_of_lt_of_le (by have:=World.block_lt_of_cell? _ _ hw744_3;first | rwa [add_block] at this | exact this) GW749.out) | (rw [add_block];exact Nat.ne_of_lt (Nat.lt_of_lt_of_le (by have:=World.block_lt_of_cell? _ _ hw744_3;first | rwa [add_block] at this | exact this) GW749.out)) | (show (Addr.add _ _).block ≠ _;rw [add_block];exact Nat.ne_of_lt (Nat.lt_of_lt_of_le (by have:=World.block_lt_of_cell? _ _ hw744_3;first | rwa [add_block] at this | exact this) GW749.out)) | (dsimp only;exact Nat.ne_of_lt (Nat.lt_of_lt_of_le (by have:=World.block_lt_of_cell? _ _ hw744_3;first | rwa [add_block] at this | exact this) GW749.out))) _).trans (hHeld.2.2.2.2))⟩ (fun hHeld=>?_);clear hK K;refine pure_ (i:=11) (N:=some 9) (v:=?_) (a':=?_) #[true,true,true,true,true,true,true,true,true,true,true,true] rfl rfl (any_of HT_.out (by kernel_rfl)) (fun _ _ _ h=>h) (Or.inl ⟨by rfl,?_⟩) ?_ ?_;rotate_left
      ·intro w';go_simp;with_reducible rfl
      rotate_left
      ·simp only [Act.put,List.setIfInBounds_toArray,List.set_cons_zero,List.set_cons_succ,i64_w,i32_w];rfl
      refine done_ (done_of HT_.out (by kernel_rfl)) ?_;have hnb25:=NB749_738.out;have hnc25:=NB738_749.out;have hnb26:=NB749_739.out;have hnc26:=NB739_749.out;have hnb27:=NB749_743.out;have hnc27:=NB743_749.out;have hcz28_0 : w22.cell? ⟨gb749,0,none⟩ = some (.slice none 0 0):=(blk_cell BK749.out 0).trans rfl;have hfz28_0:=blk_frozen BK749.out 0;have hnb29:=NB743_738.out;have hnc29:=NB738_743.out;have hnb30:=NB743_739.out;have hnc30:=NB739_743.out;have hcz31_0 : w22.cell? ⟨gb743,0,none⟩ = some (.slice Ao18 x744000_1.length co18):=(blk_cell BK743.out 0).trans rfl;have hfz31_0:=blk_frozen BK743.out 0
      try go_wp2
      go_roundg k1;case measure=>have:=HK1.out;omega
      case rel=>exact ⟨(wrap64 (x7_1 + 1)),(t745),(.slice Ao23 t745.length co23),(by first | rfl | (simp;done) | (simp [*];done)),H',⟨by have:=HK1.out;omega⟩,⟨by (with_reducible repeat (first | apply Kd.S_alloc | apply Kd.S_drewN | apply Kd.S_drew));exact Kd.S_mono (Kd.S_far (p:=⟨gb743,0,none⟩) (Kd.S_far (p:=⟨gb749,0,none⟩) (Kd.S_types (Kd.S_types HO747.out BK749.out (by decide)) BK743.out (by decide)) (fun _ hk=>hk.1.2) (.slice Ao23 t745.length co23)) (fun _ hk=>hk.2) (.slice Ao23 t745.length co23)) (fun _ hk=>trivial)⟩,⟨by (with_reducible repeat (first | refine blk_drewN ?_ _ | refine blk_drew ?_ | refine blk_alloc ?_ _));refine blk_far ?_ NB738_743.out _;(with_reducible repeat (first | refine blk_drewN ?_ _ | refine blk_drew ?_ | refine blk_alloc ?_ _));refine blk_far ?_ NB738_749.out _;(with_reducible repeat (first | refine blk_drewN ?_ _ | refine blk_drew ?_ | refine blk_alloc ?_ _));exact BK738.out⟩,⟨by (with_reducible repeat (first | refine blk_drewN ?_ _ | refine blk_drew ?_ | refine blk_alloc ?_ _));refine blk_far ?_ NB739_743.out _;(with_reducible repeat (first | refine blk_drewN ?_ _ | refine blk_drew ?_ | refine blk_alloc ?_ _));refine blk_far ?_ NB739_749.out _;(with_reducible repeat (first | refine blk_drewN ?_ _ | refine blk_drew ?_ | refine blk_alloc ?_ _));exact BK739.out⟩,⟨by (with_reducible repeat (first | refine blk_drewN ?_ _ | refine blk_drew ?_ | refine blk_alloc ?_ _));refine blk_put (cs:=#[.slice Ao18 x744000_1.length co18]) ?_ 0 _ rfl;(with_reducible repeat (first | refine blk_drewN ?_ _ | refine blk_drew ?_ | refine blk_alloc ?_ _));refine blk_far ?_ NB743_749.out _;(with_reducible repeat (first | refine blk_drewN ?_ _ | refine blk_drew ?_ | refine blk_alloc ?_ _));exact BK743.out⟩,⟨hs4 HB GE738 GE739 GE743 GE749⟩⟩
     replace c17:=Bool.eq_false_iff.mpr c17;subst c17;have H1 : (some (x744000_1,x7_1)) = some (r1,r2):=by rw [if_neg (show ¬ (false = true) by decide)] at H;exact H
     clear H;have H:=H1;clear H1;simp only [Option.some.injEq,Prod.mk.injEq] at H;obtain ⟨rfl,rfl⟩:=H;obtain ⟨Ao32,co32,eo32⟩:=Kd.S_slice HO_744000.out;subst eo32
     try go_wp2
     have n0_:=Aside0.mk (Kd.S_drew HO_744000.out);have n1_:=Aside0.mk (blk_drew BK738.out);have n2_:=Aside0.mk (blk_drew BK739.out);have n3_:=Aside0.mk (blk_drew BK743.out);have n4_:=Aside0.mk (below_drew1 HB.out);clear HO_744000;clear BK738;clear BK739;clear BK743;clear HB;have HO_744000:=n0_;have BK738:=n1_;have BK739:=n2_;have BK743:=n3_;have HB:=n4_;clear n0_ n1_ n2_ n3_ n4_;have p744 : 0 ≤ (x7_1 : Int):=of_decide_eq_true (by first | (with_reducible assumption) | assumption);have q744 : x7_1 < (l1.length : Int):=of_decide_eq_true (by first | (with_reducible assumption) | assumption);obtain ⟨ad744,e744,hx744_0,hx744_1,hx744_2,hx744_3⟩:=at_T69 HR1.out x7_1 p744 q744;have hw744_3:=hx744_3;have hw744_2:=hx744_2;have hw744_1:=hx744_1;have hw744_0:=hx744_0;cases e744;replace hx744_0:=(HB.out.cell (World.block_lt_of_cell? w _ hx744_0)).trans hx744_0;replace hx744_1:=(HB.out.cell (World.block_lt_of_cell? w _ hx744_1)).trans hx744_1;replace hx744_2:=(HB.out.cell (World.block_lt_of_cell? w _ hx744_2)).trans hx744_2;replace hx744_3:=(HB.out.cell (World.block_lt_of_cell? w _ hx744_3)).trans hx744_3;replace p744:=eq_true p744;replace q744:=eq_true q744;refine start_ (n:=12) (S:=fun w'=>w'.cell? ⟨gb743,0,none⟩ = some (.slice Ao32 x744000_1.length co32) ∧ w'.cell? (ad744.add ((x7_1).toNat * 4)) = some (.int .i64 ((rd_T69 l1 x7_1).f0)) ∧ w'.cell? ⟨(ad744.add ((x7_1).toNat * 4)).block,(ad744.add ((x7_1).toNat * 4)).off + 1,none⟩ = some (.int .i64 ((rd_T69 l1 x7_1).f1)) ∧ w'.cell? ⟨(ad744.add ((x7_1).toNat * 4)).block,(ad744.add ((x7_1).toNat * 4)).off + 2,none⟩ = some (.int .i64 ((rd_T69 l1 x7_1).f2)) ∧ w'.cell? ⟨(ad744.add ((x7_1).toNat * 4)).block,(ad744.add ((x7_1).toNat * 4)).off + 3,none⟩ = some (.string ((rd_T69 l1 x7_1).f3))) (ds:=[]) #[false,false,false,false,false,false,false,false,false,false,false,false] (by kernel_rfl) rfl rfl ⟨(blk_cell BK743.out 0).trans rfl,((HB.out.cell (World.block_lt_of_cell? w _ hw744_0)).trans hw744_0),((HB.out.cell (World.block_lt_of_cell? w _ hw744_1)).trans hw744_1),((HB.out.cell (World.block_lt_of_cell? w _ hw744_2)).trans hw744_2),((HB.out.cell (World.block_lt_of_cell? w _ hw744_3)).trans hw744_3)⟩ (fun hHeld=>?_);refine with_tabW spec_DoSteps.tab5 spec_DoSteps.bits5 (fun HT_ HW_=>?_);generalize wr.drew = w33 at HO_744000 BK738 BK739 BK743 HB hx744_0 hx744_1 hx744_2 hx744_3 hHeld ⊢;refine pure_ (i:=1) (N:=some 20) (v:=?_) (a':=?_) #[false,true,false,false,false,false,false,false,false,false,false,false] rfl rfl (any_of HT_.out (by kernel_rfl)) (fun _ _ _ h=>h) (Or.inl ⟨by rfl,?_⟩) ?_ ?_;rotate_left
     ·intro w';go_simp;with_reducible rfl
     rotate_left
     ·simp only [Act.put,List.setIfInBounds_toArray,List.set_cons_zero,List.set_cons_succ,i64_w,i32_w];rfl
     refine pure_ (i:=2) (N:=some 21) (v:=?_) (a':=?_) #[false,true,true,false,false,false,false,false,false,false,false,false] rfl rfl (any_of HT_.out (by kernel_rfl)) (fun _ _ _ h=>h) (Or.inl ⟨by rfl,?_⟩) ?_ ?_;rotate_left
     ·intro w';go_simp;with_reducible rfl
     rotate_left
     ·simp only [Act.put,List.setIfInBounds_toArray,List.set_cons_zero,List.set_cons_succ,i64_w,i32_w];rfl
     refine pure_ (i:=3) (N:=some 22) (v:=?_) (a':=?_) #[false,true,true,true,false,false,false,false,false,false,false,false] rfl rfl (any_of HT_.out (by kernel_rfl)) (fun _ _ _ h=>h) (Or.inl ⟨by rfl,?_⟩) ?_ ?_;rotate_left
     ·intro w';go_simp;with_reducible rfl
     rotate_left
     ·simp only [Act.put,List.setIfInBounds_toArray,List.set_cons_zero,List.set_cons_succ,i64_w,i32_w];rfl
     refine take_ (i:=0) (N:=some 19) (v:=?_) (a':=?_) #[true,true,true,true,false,false,false,false,false,false,false,false] rfl rfl (take_ofW HT_.out HW_.out (by kernel_rfl)) (fun _ _ _ h=>h) (Or.inl ⟨by rfl,?_⟩) hHeld ?_ ?_;rotate_left
     ·rintro w' ⟨s0,s1,s2,s3,s4⟩;go_simp;with_reducible rfl
     rotate_left
     ·simp only [Act.put,List.setIfInBounds_toArray,List.set_cons_zero,List.set_cons_succ,i64_w,i32_w];rfl
     refine take_ (i:=4) (N:=some 23) (v:=?_) (a':=?_) #[true,true,true,true,true,false,false,false,false,false,false,false] rfl rfl (take_ofW HT_.out HW_.out (by kernel_rfl)) (fun _ _ _ h=>h) (Or.inl ⟨by rfl,?_⟩) hHeld ?_ ?_;rotate_left
     ·rintro w' ⟨s0,s1,s2,s3,s4⟩;go_simp;with_reducible rfl
     rotate_left
     ·simp only [Act.put,List.setIfInBounds_toArray,List.set_cons_zero,List.set_cons_succ,i64_w,i32_w];rfl
     refine join_ (σ:=Value × Nat) 2 #[true,true,true,true,true,true,true,true,true,true,false,false] (fun s_=>[(24,.tuple #[.agg #[s_.1],.bool false]),(8,.pointer (some ⟨s_.2,0,none⟩)),(18,.tuple #[.agg #[s_.1],.bool false]),(25,.agg #[s_.1]),(26,.bool false)]) (fun s_ w'=>(w'.cell? ⟨gb743,0,none⟩ = some (.slice Ao32 x744000_1.length co32) ∧ w'.cell? (ad744.add ((x7_1).toNat * 4)) = some (.int .i64 ((rd_T69 l1 x7_1).f0)) ∧ w'.cell? ⟨(ad744.add ((x7_1).toNat * 4)).block,(ad744.add ((x7_1).toNat * 4)).off + 1,none⟩ = some (.int .i64 ((rd_T69 l1 x7_1).f1)) ∧ w'.cell? ⟨(ad744.add ((x7_1).toNat * 4)).block,(ad744.add ((x7_1).toNat * 4)).off + 2,none⟩ = some (.int .i64 ((rd_T69 l1 x7_1).f2)) ∧ w'.cell? ⟨(ad744.add ((x7_1).toNat * 4)).block,(ad744.add ((x7_1).toNat * 4)).off + 3,none⟩ = some (.string ((rd_T69 l1 x7_1).f3))) ∧ (Kd.S k112 112 w' w.heap.size (fun k_=>some k_ ≠ (.slice Ao32 x744000_1.length co32 : Value).ownBlock) s_.1 t745) ∧ (Kd.S k112 112 w' w.heap.size (fun k_=>some k_ ≠ (s_.1 : Value).ownBlock) (.slice Ao32 x744000_1.length co32) x744000_1) ∧ (w'.heap[gb738]? = some (.cells #[.slice A0_0 l0_0.length c0_0] 59 (0,0))) ∧ (w'.heap[gb739]? = some (.cells #[.slice none 0 0] 59 (0,0))) ∧ (w'.heap[gb743]? = some (.cells #[.slice Ao32 x744000_1.length co32] 59 (0,0))) ∧ (w'.heap[s_.2]? = some (.cells #[.slice none 0 0] 59 (0,0))) ∧ (w.heap.size ≤ s_.2) ∧ (w.heap.size ≤ s_.2) ∧ (gb738 ≠ s_.2) ∧ (s_.2 ≠ gb738) ∧ (gb739 ≠ s_.2) ∧ (s_.2 ≠ gb739) ∧ (gb743 ≠ s_.2) ∧ (s_.2 ≠ gb743) ∧ (Below w.heap.size w w')) ?_ ?_;rotate_left
     ·intro hCont;refine two_ (i:=5) (j:=9) (Ni:=some 24) (Nj:=some 8) #[true,true,true,true,true,true,false,false,false,false,false,false] #[true,true,true,true,true,false,false,false,false,true,false,false] rfl rfl rfl rfl (two_of HT_.out (by kernel_rfl)) (by decide) (by decide) (fun K hK=>?_) (fun K hK=>?_)
      ·skip
       refine goes_ Try.func38 (by kernel_rfl) rfl #[.agg #[.slice Ao32 x744000_1.length co32],.agg #[.int .i64 ((rd_T69 l1 x7_1).f0),.int .i64 ((rd_T69 l1 x7_1).f1),.int .i64 ((rd_T69 l1 x7_1).f2),.string ((rd_T69 l1 x7_1).f3)]] (by rfl) rfl rfl (by (try simp only [List.map_toArray,List.map_cons,List.map_nil]);first | done | rfl | (simp only [List.length_drop,List.length_take];rfl)) ?_;with_reducible refine (spec_DoStep.calls k1 _ _ x744000_1 ((rd_T69 l1 x7_1).f0) ((rd_T69 l1 x7_1).f1) ((rd_T69 l1 x7_1).f2) ((rd_T69 l1 x7_1).f3) t745 false _ ?side1 ?side2 A16.out).mono ?_
       (case side1=>repeat (first | exact (Kd.S_reads' HO_744000.out).2.2 | (with_reducible refine Kd.C_alloc ?_ _) | (with_reducible refine Kd.C_drewN ?_ _) | (with_reducible refine Kd.C_drew ?_)))
       (case side2=>exact (Kd.S_reads' HO_744000.out).2.1)
       rintro e w34 ⟨v746,rfl,ho0,hb⟩;refine ⟨_,rfl,?_⟩;have n0_:=Aside0.mk (Kd.S_elder' (ss HO_744000) (Kd.S_base ho0) hb);have n1_:=Aside0.mk (Kd.S_lower (Kd.S_new' ho0 (Kd.S_lt (ss HO_744000))) (below_size (hs3 HB GE738 GE739 GE743)));have n2_:=Aside0.mk (blk_below (g:=gb738) (o:=.cells #[.slice A0_0 l0_0.length c0_0] 59 (0,0)) (bs BK738) hb);have n3_:=Aside0.mk (blk_below (g:=gb739) (o:=.cells #[.slice none 0 0] 59 (0,0)) (bs BK739) hb);have n4_:=Aside0.mk (blk_below (g:=gb743) (o:=.cells #[.slice Ao32 x744000_1.length co32] 59 (0,0)) (bs BK743) hb);have n5_:=Aside0.mk (below_step (hs3 HB GE738 GE739 GE743) hb);clear HO_744000;clear BK738;clear BK739;clear BK743;clear HB;have HO_744000:=n0_;have HO747:=n1_;have BK738:=n2_;have BK739:=n3_;have BK743:=n4_;have HB:=n5_;clear n0_ n1_ n2_ n3_ n4_ n5_
       (try clear hb)
       (try clear hb2)
       (try clear hk)
       (try clear hi)
       (try clear ho0)
       refine hK.out _ _ ⟨(blk_cell BK743.out 0).trans rfl,((HB.out.cell (World.block_lt_of_cell? w _ hw744_0)).trans hw744_0),((HB.out.cell (World.block_lt_of_cell? w _ hw744_1)).trans hw744_1),((HB.out.cell (World.block_lt_of_cell? w _ hw744_2)).trans hw744_2),((HB.out.cell (World.block_lt_of_cell? w _ hw744_3)).trans hw744_3)⟩ (fun hHeld=>?_);clear hK K;refine norm_ (a':=?_) ?_ ?_;rotate_left
       ·show Act.put _ (some 24) _ = _;simp only [Act.put,List.setIfInBounds_toArray,List.set_cons_zero,List.set_cons_succ,i64_w,i32_w];rfl
       refine pure_ (i:=6) (N:=some 18) (v:=?_) (a':=?_) #[true,true,true,true,true,true,true,false,false,false,false,false] rfl rfl (any_of HT_.out (by kernel_rfl)) (fun _ _ _ h=>h) (Or.inl ⟨by rfl,?_⟩) ?_ ?_;rotate_left
       ·intro w';go_simp;with_reducible rfl
       rotate_left
       ·simp only [Act.put,List.setIfInBounds_toArray,List.set_cons_zero,List.set_cons_succ,i64_w,i32_w];rfl
       refine pure_ (i:=7) (N:=some 25) (v:=?_) (a':=?_) #[true,true,true,true,true,true,true,true,false,false,false,false] rfl rfl (any_of HT_.out (by kernel_rfl)) (fun _ _ _ h=>h) (Or.inl ⟨by rfl,?_⟩) ?_ ?_;rotate_left
       ·intro w';go_simp;with_reducible rfl
       rotate_left
       ·simp only [Act.put,List.setIfInBounds_toArray,List.set_cons_zero,List.set_cons_succ,i64_w,i32_w];rfl
       refine pure_ (i:=8) (N:=some 26) (v:=?_) (a':=?_) #[true,true,true,true,true,true,true,true,true,false,false,false] rfl rfl (any_of HT_.out (by kernel_rfl)) (fun _ _ _ h=>h) (Or.inl ⟨by rfl,?_⟩) ?_ ?_;rotate_left
       ·intro w';go_simp;with_reducible rfl
       rotate_left
       ·simp only [Act.put,List.setIfInBounds_toArray,List.set_cons_zero,List.set_cons_succ,i64_w,i32_w];rfl
       refine one_ (i:=9) (N:=some 8) #[true,true,true,true,true,true,true,true,true,true,false,false] rfl rfl (one_of HT_.out (by kernel_rfl)) (by decide) (fun K hK=>?_);refine box_step ?hg (N:=8) ?hd (cs:=#[.slice none 0 0]) (t:=59) ?hr ?_;(case hd=>rfl);(case hg=>rfl);(case hr=>first | (go_simp;done) | (go_simp;rfl));intro gb749 hg w35 hbox hb;have n0_:=Aside0.mk (Kd.S_below (ss HO_744000) hb);have n1_:=Aside0.mk (Kd.S_below (ss HO747) hb);have n2_:=Aside0.mk (blk_below (g:=gb738) (o:=.cells #[.slice A0_0 l0_0.length c0_0] 59 (0,0)) (bs BK738) hb);have n3_:=Aside0.mk (blk_below (g:=gb739) (o:=.cells #[.slice none 0 0] 59 (0,0)) (bs BK739) hb);have n4_:=Aside0.mk (blk_below (g:=gb743) (o:=.cells #[.slice Ao32 x744000_1.length co32] 59 (0,0)) (bs BK743) hb);have n5_:=Aside0.mk (below_step (hs3 HB GE738 GE739 GE743) hb);have n6_:=Aside0.mk (hbox);have n7_:=Aside0.mk ((by rw [hg];exact (below_size (hs3 HB GE738 GE739 GE743)) : w.heap.size ≤ gb749));have n8_:=Aside0.mk ((by rw [hg];exact (below_size (hs3 HB GE738 GE739 GE743)) : w.heap.size ≤ gb749));have n9_:=Aside0.mk ((by rw [hg];exact Nat.ne_of_lt (blk_lt (g:=gb738) (o:=.cells #[.slice A0_0 l0_0.length c0_0] 59 (0,0)) (bs BK738)) : gb738 ≠ gb749));have n10_:=Aside0.mk ((by rw [hg];exact Nat.ne_of_gt (blk_lt (g:=gb738) (o:=.cells #[.slice A0_0 l0_0.length c0_0] 59 (0,0)) (bs BK738)) : gb749 ≠ gb738));have n11_:=Aside0.mk ((by rw [hg];exact Nat.ne_of_lt (blk_lt (g:=gb739) (o:=.cells #[.slice none 0 0] 59 (0,0)) (bs BK739)) : gb739 ≠ gb749));have n12_:=Aside0.mk ((by rw [hg];exact Nat.ne_of_gt (blk_lt (g:=gb739) (o:=.cells #[.slice none 0 0] 59 (0,0)) (bs BK739)) : gb749 ≠ gb739));have n13_:=Aside0.mk ((by rw [hg];exact Nat.ne_of_lt (blk_lt (g:=gb743) (o:=.cells #[.slice Ao32 x744000_1.length co32] 59 (0,0)) (bs BK743)) : gb743 ≠ gb749));have n14_:=Aside0.mk ((by rw [hg];exact Nat.ne_of_gt (blk_lt (g:=gb743) (o:=.cells #[.slice Ao32 x744000_1.length co32] 59 (0,0)) (bs BK743)) : gb749 ≠ gb743));clear HO_744000;clear HO747;clear BK738;clear BK739;clear BK743;clear HB;have HO_744000:=n0_;have HO747:=n1_;have BK738:=n2_;have BK739:=n3_;have BK743:=n4_;have HB:=n5_;have BK749:=n6_;have GW749:=n7_;have GE749:=n8_;have NB738_749:=n9_;have NB749_738:=n10_;have NB739_749:=n11_;have NB749_739:=n12_;have NB743_749:=n13_;have NB749_743:=n14_;clear n0_ n1_ n2_ n3_ n4_ n5_ n6_ n7_ n8_ n9_ n10_ n11_ n12_ n13_ n14_;clear hb hbox hg;refine hK.out _ _ ⟨(blk_cell BK743.out 0).trans rfl,((HB.out.cell (World.block_lt_of_cell? w _ hw744_0)).trans hw744_0),((HB.out.cell (World.block_lt_of_cell? w _ hw744_1)).trans hw744_1),((HB.out.cell (World.block_lt_of_cell? w _ hw744_2)).trans hw744_2),((HB.out.cell (World.block_lt_of_cell? w _ hw744_3)).trans hw744_3)⟩ (fun hHeld=>?_);clear hK K;refine norm_ (a':=?_) ?_ ?_;rotate_left
       ·show Act.put _ (some 8) _ = _;simp only [Act.put,List.setIfInBounds_toArray,List.set_cons_zero,List.set_cons_succ,i64_w,i32_w];rfl
       exact norm_ (by simp only [putAll,Act.put,List.setIfInBounds_toArray,List.set_cons_zero,List.set_cons_succ]) (hCont (v746,gb749) _ ⟨hHeld,(by (with_reducible repeat (first | apply Kd.S_alloc | apply Kd.S_drewN | apply Kd.S_drew));exact Kd.S_mono HO747.out (fun _ hk=>hk.2)),(by (with_reducible repeat (first | apply Kd.S_alloc | apply Kd.S_drewN | apply Kd.S_drew));exact Kd.S_mono HO_744000.out (fun _ hk=>hk.2)),(bs BK738),(bs BK739),(bs BK743),(bs BK749),GW749.out,GE749.out,NB738_749.out,NB749_738.out,NB739_749.out,NB749_739.out,NB743_749.out,NB749_743.out,(hs4 HB GE738 GE739 GE743 GE749)⟩)
      skip
      refine box_step ?hg (N:=8) ?hd (cs:=#[.slice none 0 0]) (t:=59) ?hr ?_;(case hd=>rfl);(case hg=>rfl);(case hr=>first | (go_simp;done) | (go_simp;rfl));intro gb749 hg w34 hbox hb;have n0_:=Aside0.mk (Kd.S_below (ss HO_744000) hb);have n1_:=Aside0.mk (blk_below (g:=gb738) (o:=.cells #[.slice A0_0 l0_0.length c0_0] 59 (0,0)) (bs BK738) hb);have n2_:=Aside0.mk (blk_below (g:=gb739) (o:=.cells #[.slice none 0 0] 59 (0,0)) (bs BK739) hb);have n3_:=Aside0.mk (blk_below (g:=gb743) (o:=.cells #[.slice Ao32 x744000_1.length co32] 59 (0,0)) (bs BK743) hb);have n4_:=Aside0.mk (below_step (hs3 HB GE738 GE739 GE743) hb);have n5_:=Aside0.mk (hbox);have n6_:=Aside0.mk ((by rw [hg];exact (below_size (hs3 HB GE738 GE739 GE743)) : w.heap.size ≤ gb749));have n7_:=Aside0.mk ((by rw [hg];exact (below_size (hs3 HB GE738 GE739 GE743)) : w.heap.size ≤ gb749));have n8_:=Aside0.mk ((by rw [hg];exact Nat.ne_of_lt (blk_lt (g:=gb738) (o:=.cells #[.slice A0_0 l0_0.length c0_0] 59 (0,0)) (bs BK738)) : gb738 ≠ gb749));have n9_:=Aside0.mk ((by rw [hg];exact Nat.ne_of_gt (blk_lt (g:=gb738) (o:=.cells #[.slice A0_0 l0_0.length c0_0] 59 (0,0)) (bs BK738)) : gb749 ≠ gb738));have n10_:=Aside0.mk ((by rw [hg];exact Nat.ne_of_lt (blk_lt (g:=gb739) (o:=.cells #[.slice none 0 0] 59 (0,0)) (bs BK739)) : gb739 ≠ gb749));have n11_:=Aside0.mk ((by rw [hg];exact Nat.ne_of_gt (blk_lt (g:=gb739) (o:=.cells #[.slice none 0 0] 59 (0,0)) (bs BK739)) : gb749 ≠ gb739));have n12_:=Aside0.mk ((by rw [hg];exact Nat.ne_of_lt (blk_lt (g:=gb743) (o:=.cells #[.slice Ao32 x744000_1.length co32] 59 (0,0)) (bs BK743)) : gb743 ≠ gb749));have n13_:=Aside0.mk ((by rw [hg];exact Nat.ne_of_gt (blk_lt (g:=gb743) (o:=.cells #[.slice Ao32 x744000_1.length co32] 59 (0,0)) (bs BK743)) : gb749 ≠ gb743));clear HO_744000;clear BK738;clear BK739;clear BK743;clear HB;have HO_744000:=n0_;have BK738:=n1_;have BK739:=n2_;have BK743:=n3_;have HB:=n4_;have BK749:=n5_;have GW749:=n6_;have GE749:=n7_;have NB738_749:=n8_;have NB749_738:=n9_;have NB739_749:=n10_;have NB749_739:=n11_;have NB743_749:=n12_;have NB749_743:=n13_;clear n0_ n1_ n2_ n3_ n4_ n5_ n6_ n7_ n8_ n9_ n10_ n11_ n12_ n13_;clear hb hbox hg;refine hK.out _ _ ⟨(blk_cell BK743.out 0).trans rfl,((HB.out.cell (World.block_lt_of_cell? w _ hw744_0)).trans hw744_0),((HB.out.cell (World.block_lt_of_cell? w _ hw744_1)).trans hw744_1),((HB.out.cell (World.block_lt_of_cell? w _ hw744_2)).trans hw744_2),((HB.out.cell (World.block_lt_of_cell? w _ hw744_3)).trans hw744_3)⟩ (fun hHeld=>?_);clear hK K;refine norm_ (a':=?_) ?_ ?_;rotate_left
      ·show Act.put _ (some 8) _ = _;simp only [Act.put,List.setIfInBounds_toArray,List.set_cons_zero,List.set_cons_succ,i64_w,i32_w];rfl
      refine one_ (i:=5) (N:=some 24) #[true,true,true,true,true,true,false,false,false,true,false,false] rfl rfl (one_of HT_.out (by kernel_rfl)) (by decide) (fun K hK=>?_);refine goes_ Try.func38 (by kernel_rfl) rfl #[.agg #[.slice Ao32 x744000_1.length co32],.agg #[.int .i64 ((rd_T69 l1 x7_1).f0),.int .i64 ((rd_T69 l1 x7_1).f1),.int .i64 ((rd_T69 l1 x7_1).f2),.string ((rd_T69 l1 x7_1).f3)]] (by rfl) rfl rfl (by (try simp only [List.map_toArray,List.map_cons,List.map_nil]);first | done | rfl | (simp only [List.length_drop,List.length_take];rfl)) ?_;with_reducible refine (spec_DoStep.calls k1 _ _ x744000_1 ((rd_T69 l1 x7_1).f0) ((rd_T69 l1 x7_1).f1) ((rd_T69 l1 x7_1).f2) ((rd_T69 l1 x7_1).f3) t745 false _ ?side1 ?side2 A16.out).mono ?_
      (case side1=>repeat (first | exact (Kd.S_reads' HO_744000.out).2.2 | (with_reducible refine Kd.C_alloc ?_ _) | (with_reducible refine Kd.C_drewN ?_ _) | (with_reducible refine Kd.C_drew ?_)))
      (case side2=>exact (Kd.S_reads' HO_744000.out).2.1)
      rintro e w35 ⟨v746,rfl,ho0,hb⟩;refine ⟨_,rfl,?_⟩;have n0_:=Aside0.mk (Kd.S_elder' (ss HO_744000) (Kd.S_base ho0) hb);have n1_:=Aside0.mk (Kd.S_lower (Kd.S_new' ho0 (Kd.S_lt (ss HO_744000))) (below_size (hs4 HB GE738 GE739 GE743 GE749)));have n2_:=Aside0.mk (blk_below (g:=gb738) (o:=.cells #[.slice A0_0 l0_0.length c0_0] 59 (0,0)) (bs BK738) hb);have n3_:=Aside0.mk (blk_below (g:=gb739) (o:=.cells #[.slice none 0 0] 59 (0,0)) (bs BK739) hb);have n4_:=Aside0.mk (blk_below (g:=gb743) (o:=.cells #[.slice Ao32 x744000_1.length co32] 59 (0,0)) (bs BK743) hb);have n5_:=Aside0.mk (blk_below (g:=gb749) (o:=.cells #[.slice none 0 0] 59 (0,0)) (bs BK749) hb);have n6_:=Aside0.mk (below_step (hs4 HB GE738 GE739 GE743 GE749) hb);clear HO_744000;clear BK738;clear BK739;clear BK743;clear BK749;clear HB;have HO_744000:=n0_;have HO747:=n1_;have BK738:=n2_;have BK739:=n3_;have BK743:=n4_;have BK749:=n5_;have HB:=n6_;clear n0_ n1_ n2_ n3_ n4_ n5_ n6_
      (try clear hb)
      (try clear hb2)
      (try clear hk)
      (try clear hi)
      (try clear ho0)
      refine hK.out _ _ ⟨(blk_cell BK743.out 0).trans rfl,((HB.out.cell (World.block_lt_of_cell? w _ hw744_0)).trans hw744_0),((HB.out.cell (World.block_lt_of_cell? w _ hw744_1)).trans hw744_1),((HB.out.cell (World.block_lt_of_cell? w _ hw744_2)).trans hw744_2),((HB.out.cell (World.block_lt_of_cell? w _ hw744_3)).trans hw744_3)⟩ (fun hHeld=>?_);clear hK K;refine norm_ (a':=?_) ?_ ?_;rotate_left
      ·show Act.put _ (some 24) _ = _;simp only [Act.put,List.setIfInBounds_toArray,List.set_cons_zero,List.set_cons_succ,i64_w,i32_w];rfl
      refine pure_ (i:=6) (N:=some 18) (v:=?_) (a':=?_) #[true,true,true,true,true,true,true,false,false,true,false,false] rfl rfl (any_of HT_.out (by kernel_rfl)) (fun _ _ _ h=>h) (Or.inl ⟨by rfl,?_⟩) ?_ ?_;rotate_left
      ·intro w';go_simp;with_reducible rfl
      rotate_left
      ·simp only [Act.put,List.setIfInBounds_toArray,List.set_cons_zero,List.set_cons_succ,i64_w,i32_w];rfl
      refine pure_ (i:=7) (N:=some 25) (v:=?_) (a':=?_) #[true,true,true,true,true,true,true,true,false,true,false,false] rfl rfl (any_of HT_.out (by kernel_rfl)) (fun _ _ _ h=>h) (Or.inl ⟨by rfl,?_⟩) ?_ ?_;rotate_left
      ·intro w';go_simp;with_reducible rfl
      rotate_left
      ·simp only [Act.put,List.setIfInBounds_toArray,List.set_cons_zero,List.set_cons_succ,i64_w,i32_w];rfl
      refine pure_ (i:=8) (N:=some 26) (v:=?_) (a':=?_) #[true,true,true,true,true,true,true,true,true,true,false,false] rfl rfl (any_of HT_.out (by kernel_rfl)) (fun _ _ _ h=>h) (Or.inl ⟨by rfl,?_⟩) ?_ ?_;rotate_left
      ·intro w';go_simp;with_reducible rfl
      rotate_left
      ·simp only [Act.put,List.setIfInBounds_toArray,List.set_cons_zero,List.set_cons_succ,i64_w,i32_w];rfl
      exact norm_ (by simp only [putAll,Act.put,List.setIfInBounds_toArray,List.set_cons_zero,List.set_cons_succ]) (hCont (v746,gb749) _ ⟨hHeld,(by (with_reducible repeat (first | apply Kd.S_alloc | apply Kd.S_drewN | apply Kd.S_drew));exact Kd.S_mono HO747.out (fun _ hk=>hk.2)),(by (with_reducible repeat (first | apply Kd.S_alloc | apply Kd.S_drewN | apply Kd.S_drew));exact Kd.S_mono HO_744000.out (fun _ hk=>hk.2)),(bs BK738),(bs BK739),(bs BK743),(bs BK749),GW749.out,GE749.out,NB738_749.out,NB749_738.out,NB739_749.out,NB749_739.out,NB743_749.out,NB749_743.out,(hs4 HB GE738 GE739 GE743 GE749)⟩)
     rintro ⟨v746,gb749⟩ w36 ⟨hS_,h0_,h1_,h2_,h3_,h4_,h5_,h6_,h7_,h8_,h9_,h10_,h11_,h12_,h13_,h14_⟩;have n0_ : Aside0 (Kd.S k112 112 w36 w.heap.size (fun k_=>some k_ ≠ (.slice Ao32 x744000_1.length co32 : Value).ownBlock) v746 t745):=⟨h0_⟩;have n1_ : Aside0 (Kd.S k112 112 w36 w.heap.size (fun k_=>some k_ ≠ (v746 : Value).ownBlock) (.slice Ao32 x744000_1.length co32) x744000_1):=⟨h1_⟩;have n2_ : Aside0 (w36.heap[gb738]? = some (.cells #[.slice A0_0 l0_0.length c0_0] 59 (0,0))):=⟨h2_⟩;have n3_ : Aside0 (w36.heap[gb739]? = some (.cells #[.slice none 0 0] 59 (0,0))):=⟨h3_⟩;have n4_ : Aside0 (w36.heap[gb743]? = some (.cells #[.slice Ao32 x744000_1.length co32] 59 (0,0))):=⟨h4_⟩;have n5_ : Aside0 (w36.heap[gb749]? = some (.cells #[.slice none 0 0] 59 (0,0))):=⟨h5_⟩;have n6_ : Aside0 (w.heap.size ≤ gb749):=⟨h6_⟩;have n7_ : Aside0 (w.heap.size ≤ gb749):=⟨h7_⟩;have n8_ : Aside0 (gb738 ≠ gb749):=⟨h8_⟩;have n9_ : Aside0 (gb749 ≠ gb738):=⟨h9_⟩;have n10_ : Aside0 (gb739 ≠ gb749):=⟨h10_⟩;have n11_ : Aside0 (gb749 ≠ gb739):=⟨h11_⟩;have n12_ : Aside0 (gb743 ≠ gb749):=⟨h12_⟩;have n13_ : Aside0 (gb749 ≠ gb743):=⟨h13_⟩;have n14_ : Aside0 (Below w.heap.size w w36):=⟨h14_⟩;clear HO_744000;clear BK738;clear BK739;clear BK743;clear HB;clear h0_ h1_ h2_ h3_ h4_ h5_ h6_ h7_ h8_ h9_ h10_ h11_ h12_ h13_ h14_;have HO747:=n0_;have HO_744000:=n1_;have BK738:=n2_;have BK739:=n3_;have BK743:=n4_;have BK749:=n5_;have GW749:=n6_;have GE749:=n7_;have NB738_749:=n8_;have NB749_738:=n9_;have NB739_749:=n10_;have NB749_739:=n11_;have NB743_749:=n12_;have NB749_743:=n13_;have HB:=n14_;clear n0_ n1_ n2_ n3_ n4_ n5_ n6_ n7_ n8_ n9_ n10_ n11_ n12_ n13_ n14_;have hHeld : w36.cell? ⟨gb743,0,none⟩ = some (.slice Ao32 x744000_1.length co32) ∧ w36.cell? (ad744.add ((x7_1).toNat * 4)) = some (.int .i64 ((rd_T69 l1 x7_1).f0)) ∧ w36.cell? ⟨(ad744.add ((x7_1).toNat * 4)).block,(ad744.add ((x7_1).toNat * 4)).off + 1,none⟩ = some (.int .i64 ((rd_T69 l1 x7_1).f1)) ∧ w36.cell? ⟨(ad744.add ((x7_1).toNat * 4)).block,(ad744.add ((x7_1).toNat * 4)).off + 2,none⟩ = some (.int .i64 ((rd_T69 l1 x7_1).f2)) ∧ w36.cell? ⟨(ad744.add ((x7_1).toNat * 4)).block,(ad744.add ((x7_1).toNat * 4)).off + 3,none⟩ = some (.string ((rd_T69 l1 x7_1).f3)):=hS_;obtain ⟨Ao37,co37,eo37⟩:=Kd.S_slice HO747.out
     (first | subst eo37 | (injection eo37 with f1_ f2_ f3_;have f4_:=f1_.symm;have f5_:=f3_.symm;clear f1_ f2_ f3_;subst f4_;subst f5_))
     refine norm_ (a':=?_) ?_ ?_;rotate_left
     ·simp only [putAll,Act.put,List.setIfInBounds_toArray,List.set_cons_zero,List.set_cons_succ];rfl
     refine one_ (i:=10) (N:=none) #[true,true,true,true,true,true,true,true,true,true,true,false] rfl rfl (one_of HT_.out (by kernel_rfl)) (by decide) (fun K hK=>?_);have hs38 : w36.cell? ⟨gb749,0,none⟩ = some (.slice none 0 0):=(blk_cell BK749.out 0).trans rfl;have hfs38:=blk_frozen BK749.out 0;have hns38_0:=NB738_749.out;have hns38_1:=NB739_749.out;have hns38_2:=NB743_749.out;have hms38_0:=NB749_738.out;have hms38_1:=NB749_739.out;have hms38_2:=NB749_743.out;refine skip_ (w1:=?_) (by rfl) rfl ?_ ?_;rotate_left
     ·go_simp;rfl
     refine hK.out _ _ ⟨((cell_far (p:=⟨gb749,_,none⟩) NB743_749.out _).trans (hHeld.1)),((cell_far (p:=⟨gb749,_,none⟩) (by first | exact Nat.ne_of_lt (Nat.lt_of_lt_of_le (by have:=World.block_lt_of_cell? _ _ hw744_0;first | rwa [add_block] at this | exact this) GW749.out) | (rw [add_block];exact Nat.ne_of_lt (Nat.lt_of_lt_of_le (by have:=World.block_lt_of_cell? _ _ hw744_0;first | rwa [add_block] at this | exact this) GW749.out)) | (show (Addr.add _ _).block ≠ _;rw [add_block];exact Nat.ne_of_lt (Nat.lt_of_lt_of_le (by have:=World.block_lt_of_cell? _ _ hw744_0;first | rwa [add_block] at this | exact this) GW749.out)) | (dsimp only;exact Nat.ne_of_lt (Nat.lt_of_lt_of_le (by have:=World.block_lt_of_cell? _ _ hw744_0;first | rwa [add_block] at this | exact this) GW749.out))) _).trans (hHeld.2.1)),((cell_far (p:=⟨gb749,_,none⟩) (by first | exact Nat.ne_of_lt (Nat.lt_of_lt_of_le (by have:=World.block_lt_of_cell? _ _ hw744_1;first | rwa [add_block] at this | exact this) GW749.out) | (rw [add_block];exact Nat.ne_of_lt (Nat.lt_of_lt_of_le (by have:=World.block_lt_of_cell? _ _ hw744_1;first | rwa [add_block] at this | exact this) GW749.out)) | (show (Addr.add _ _).block ≠ _;rw [add_block];exact Nat.ne_of_lt (Nat.lt_of_lt_of_le (by have:=World.block_lt_of_cell? _ _ hw744_1;first | rwa [add_block] at this | exact this) GW749.out)) | (dsimp only;exact Nat.ne_of_lt (Nat.lt_of_lt_of_le (by have:=World.block_lt_of_cell? _ _ hw744_1;first | rwa [add_block] at this | exact this) GW749.out))) _).trans (hHeld.2.2.1)),((cell_far (p:=⟨gb749,_,none⟩) (by first | exact Nat.ne_of_lt (Nat.lt_of_lt_of_le (by have:=World.block_lt_of_cell? _ _ hw744_2;first | rwa [add_block] at this | exact this) GW749.out) | (rw [add_block];exact Nat.ne_of_lt (Nat.lt_of_lt_of_le (by have:=World.block_lt_of_cell? _ _ hw744_2;first | rwa [add_block] at this | exact this) GW749.out)) | (show (Addr.add _ _).block ≠ _;rw [add_block];exact Nat.ne_of_lt (Nat.lt_of_lt_of_le (by have:=World.block_lt_of_cell? _ _ hw744_2;first | rwa [add_block] at this | exact this) GW749.out)) | (dsimp only;exact Nat.ne_of_lt (Nat.lt_of_lt_of_le (by have:=World.block_lt_of_cell? _ _ hw744_2;first | rwa [add_block] at this | exact this) GW749.out))) _).trans (hHeld.2.2.2.1)),((cell_far (p:=⟨gb749,_,none⟩) (by first | exact Nat.ne_of_lt (Nat.lt_of_lt_of_le (by have:=World.block_lt_of_cell? _ _ hw744_3;first | rwa [add_block] at this | exact this) GW749.out) | (rw [add_block];exact Nat.ne_of_lt (Nat.lt_of_lt_of_le (by have:=World.block_lt_of_cell? _ _ hw744_3;first | rwa [add_block] at this | exact this) GW749.out)) | (show (Addr.add _ _).block ≠ _;rw [add_block];exact Nat.ne_of_lt (Nat.lt_of_lt_of_le (by have:=World.block_lt_of_cell? _ _ hw744_3;first | rwa [add_block] at this | exact this) GW749.out)) | (dsimp only;exact Nat.ne_of_lt (Nat.lt_of_lt_of_le (by have:=World.block_lt_of_cell? _ _ hw744_3;first | rwa [add_block] at this | exact this) GW749.out))) _).trans (hHeld.2.2.2.2))⟩ (fun hHeld=>?_);clear hK K;refine pure_ (i:=11) (N:=some 9) (v:=?_) (a':=?_) #[true,true,true,true,true,true,true,true,true,true,true,true] rfl rfl (any_of HT_.out (by kernel_rfl)) (fun _ _ _ h=>h) (Or.inl ⟨by rfl,?_⟩) ?_ ?_;rotate_left
     ·intro w';go_simp;with_reducible rfl
     rotate_left
     ·simp only [Act.put,List.setIfInBounds_toArray,List.set_cons_zero,List.set_cons_succ,i64_w,i32_w];rfl
     refine done_ (done_of HT_.out (by kernel_rfl)) ?_;have hnb39:=NB743_738.out;have hnc39:=NB738_743.out;have hnb40:=NB743_739.out;have hnc40:=NB739_743.out;have hnb41:=NB743_749.out;have hnc41:=NB749_743.out;have hcz42_0 : w36.cell? ⟨gb743,0,none⟩ = some (.slice Ao32 x744000_1.length co32):=(blk_cell BK743.out 0).trans rfl;have hfz42_0:=blk_frozen BK743.out 0;have hnb43:=NB739_738.out;have hnc43:=NB738_739.out;have hnb44:=NB739_749.out;have hnc44:=NB749_739.out;have hcz45_0 : w36.cell? ⟨gb739,0,none⟩ = some (.slice none 0 0):=(blk_cell BK739.out 0).trans rfl;have hfz45_0:=blk_frozen BK739.out 0
     try go_wp2
     refine bodyPost_ret (results_ct rfl _ _ gb739 59 #[.slice Ao32 x744000_1.length co32] (0,0) _ rfl (by (with_reducible repeat (first | refine blk_drewN ?_ _ | refine blk_drew ?_ | refine blk_alloc ?_ _));refine blk_put (cs:=#[.slice none 0 0]) ?_ 0 _ rfl;(with_reducible repeat (first | refine blk_drewN ?_ _ | refine blk_drew ?_ | refine blk_alloc ?_ _));refine blk_far ?_ NB739_749.out _;(with_reducible repeat (first | refine blk_drewN ?_ _ | refine blk_drew ?_ | refine blk_alloc ?_ _));exact BK739.out) Try.underlying59 rfl (by kernel_rfl)) rfl ?_;exact ⟨_,by first | rfl | (simp [errW_none,errW_some] <;> rfl) | (simp [*,errW_none,errW_some] <;> rfl),by (with_reducible repeat (first | apply Kd.S_alloc | apply Kd.S_drewN | apply Kd.S_drew));exact Kd.S_mono (Kd.S_far (p:=⟨gb739,0,none⟩) (Kd.S_far (p:=⟨gb749,0,none⟩) (Kd.S_types (Kd.S_types HO_744000.out BK749.out (by decide)) BK739.out (by decide)) (fun _ hk=>hk.1.2) (.slice Ao37 t745.length co37)) (fun _ hk=>hk.2) (.slice Ao32 x744000_1.length co32)) (fun _ hk=>trivial),hs4 HB GE738 GE739 GE743 GE749⟩
    rw [if_neg c15] at H;exact absurd H (by simp)
   rw [if_neg c14] at H;have c14b0 : decide (x7_1 < (l1.length : Int)) = false:=decide_eq_false c14;clear c14;simp only [Option.some.injEq,Prod.mk.injEq] at H;obtain ⟨rfl,rfl⟩:=H;have hnb46:=NB743_738.out;have hnc46:=NB738_743.out;have hnb47:=NB743_739.out;have hnc47:=NB739_743.out;have hcz48_0 : wr.cell? ⟨gb743,0,none⟩ = some (u744000):=(blk_cell BK743.out 0).trans rfl;have hfz48_0:=blk_frozen BK743.out 0;obtain ⟨Ao49,co49,eo49⟩:=Kd.S_slice HO_744000.out;subst eo49;have hnb50:=NB739_738.out;have hnc50:=NB738_739.out;have hcz51_0 : wr.cell? ⟨gb739,0,none⟩ = some (.slice none 0 0):=(blk_cell BK739.out 0).trans rfl;have hfz51_0:=blk_frozen BK739.out 0
   go_wp2
   refine bodyPost_ret (results_ct rfl _ _ gb739 59 #[.slice Ao49 x744000_1.length co49] (0,0) _ rfl (by (with_reducible repeat (first | refine blk_drewN ?_ _ | refine blk_drew ?_ | refine blk_alloc ?_ _));refine blk_put (cs:=#[.slice none 0 0]) ?_ 0 _ rfl;(with_reducible repeat (first | refine blk_drewN ?_ _ | refine blk_drew ?_ | refine blk_alloc ?_ _));exact BK739.out) Try.underlying59 rfl (by kernel_rfl)) rfl ?_;exact ⟨_,by first | rfl | (simp [errW_none,errW_some] <;> rfl) | (simp [*,errW_none,errW_some] <;> rfl),by (with_reducible repeat (first | apply Kd.S_alloc | apply Kd.S_drewN | apply Kd.S_drew));exact Kd.S_mono (Kd.S_far (p:=⟨gb739,0,none⟩) (Kd.S_types HO_744000.out BK739.out (by decide)) (fun _ hk=>hk.2) (.slice Ao49 x744000_1.length co49)) (fun _ hk=>trivial),hs3 HB GE738 GE739 GE743⟩
end Go.Proofs.Ytijbejiajaiciaa.PC

namespace Go.Proofs.Ytijbejiajaiciaa.PC
open Go.RowKit Go.Proofs.YtijbejiajaiciaaW.PrintWords Go.Proofs.YtijbejiajaiciaaW.PrintLast Go.Proofs.YtijbejiajaiciaaW.PrintMore
attribute [local go_sem] max2_int min2_int max_two min_two max_three min_three max_four min_four   -- for this text's walks alone
set_option linter.unusedVariables false
set_option linter.unusedSimpArgs false
def impl_DoSteps.l0 : Nat → List (S69) → List (S69) → Int → Int → List (S112) → Option ((List (S112)) × Int)
 | 0,_,_,_,_,_=>none
 | k + 1,x1,x13,x14,x15,x765000=>if x15 < x14 then (if 0 ≤ x15 then (if x15 < (x13.length : Int) then ((impl_DoStep.f k x765000 ((rd_T69 x13 x15).f0) ((rd_T69 x13 x15).f1) ((rd_T69 x13 x15).f2) ((rd_T69 x13 x15).f3)).bind fun bt767=>(if bt767.2 = true then (impl_DoSteps.l0 k x1 x13 x14 (wrap64 (x15 + 1)) bt767.1) else (some (x765000,x15)))) else (none)) else (none)) else (some (x765000,(x1.length : Int)))
def impl_DoSteps.f (k : Nat) (l0_0 : List (S112)) (l1 : List (S69)) : Option ((List (S112)) × Int):=(impl_copyFlash.f k l0_0).bind fun t761=>(impl_DoSteps.l0 k l1 l1 (l1.length : Int) 0 t761)
theorem impl_DoSteps.mono_l : ∀ k,(∀ y0 y1 y2 y3 y4,LeO (impl_DoSteps.l0 k y0 y1 y2 y3 y4) (impl_DoSteps.l0 (k + 1) y0 y1 y2 y3 y4))
 | 0=>fun _ _ _ _ _ r h=>by simp [impl_DoSteps.l0] at h
 | k + 1=>by
  have ih0:=impl_DoSteps.mono_l k;intro y0 y1 y2 y3 y4;unfold impl_DoSteps.l0
  repeat' first
  | (with_reducible exact ih0 _ _ _ _ _)
  | (with_reducible exact impl_DoStep.mono _ _ _ _ _ _)
  | (with_reducible exact impl_copyFlash.mono _ _)
  | (with_reducible exact LeO.refl _)
  | (with_reducible exact LeO.none _)
  | (with_reducible refine LeO.ite ?_ ?_)
  | (with_reducible refine LeO.bind ?_ (fun _=>?_))
  | exact ih0 _ _ _ _ _
  | exact impl_DoStep.mono _ _ _ _ _ _
  | exact impl_copyFlash.mono _ _
  | exact LeO.none _
  | refine LeO.ite ?_ ?_
  | refine LeO.bind ?_ (fun _=>?_)
theorem impl_DoSteps.mono : ∀ a0 a1 k,LeO (impl_DoSteps.f k a0 a1) (impl_DoSteps.f (k + 1) a0 a1):=by
 intro a0 a1 k;have ih0:=impl_DoSteps.mono_l k;unfold impl_DoSteps.f
 repeat' first
   | (with_reducible exact ih0 _ _ _ _ _)
   | (with_reducible exact impl_DoStep.mono _ _ _ _ _ _)
   | (with_reducible exact impl_copyFlash.mono _ _)
   | (with_reducible exact LeO.refl _)
   | (with_reducible exact LeO.none _)
   | (with_reducible refine LeO.ite ?_ ?_)
   | (with_reducible refine LeO.bind ?_ (fun _=>?_))
   | exact ih0 _ _ _ _ _
   | exact impl_DoStep.mono _ _ _ _ _ _
   | exact impl_copyFlash.mono _ _
   | exact LeO.none _
   | refine LeO.ite ?_ ?_
   | refine LeO.bind ?_ (fun _=>?_)
set_option maxHeartbeats 8000000 in
set_option maxRecDepth 100000 in
theorem impl_DoSteps.calls (k : Nat) (A0_0 : Option Addr) (c0_0 : Nat) (l0_0 : List (S112)) (A1 : Option Addr) (c1 : Nat) (l1 : List (S69)) (r1 : List (S112)) (r2 : Int) (w : World) (hr0_0 : Kd.C k112 w A0_0 l0_0.length l0_0) (hc0_0 : l0_0.length ≤ c0_0) (hr1 : Kd.C k69 w A1 l1.length l1) (hc1 : l1.length ≤ c1) (h : impl_DoSteps.f k l0_0 l1 = some (r1,r2)) :
  Calls Try.prog 52 #[.agg #[.slice A0_0 l0_0.length c0_0],.slice A1 l1.length c1] w fun e w'=>∃ v0_ : Value,e = .returned (.tuple #[.agg #[v0_],.int .i64 r2]) ∧ Kd.S k112 112 w' w.heap.size (fun _=>True) v0_ r1 ∧ Below w.heap.size w w':=by
 have hu59:=Try.underlying59;have hu69:=Try.underlying69;have HR0_0:=Aside0.mk hr0_0;have HC0_0:=Aside0.mk hc0_0;clear hr0_0 hc0_0;have HR1:=Aside0.mk hr1;have HC1:=Aside0.mk hc1;clear hr1 hc1;have HB:=Aside0.mk (Below.refl w.heap.size w);have H : ((impl_copyFlash.f k l0_0).bind fun t761=>(impl_DoSteps.l0 k l1 l1 (l1.length : Int) 0 t761)) = some (r1,r2):=h;clear h;replace H:=Option.bind_eq_some_iff.mp H;obtain ⟨t761,A30,H⟩:=H;replace H : (impl_DoSteps.l0 k l1 l1 (l1.length : Int) 0 t761) = some (r1,r2):=H;have A3:=Aside0.mk A30;clear A30;have H':=Aside0.mk H;clear H
 go_enter Try.func52,Try.ntmps52
 go_wp2_with (first | ((with_reducible refine gate_dst (N:=2) rfl ?_);refine box_event ?hg (N:=2) ?hd (cs:=#[.slice A0_0 l0_0.length c0_0]) (t:=59) ?hr ?_;(case hd=>rfl);(case hg=>rfl);(case hr=>first | (go_simp;done) | (go_simp;rfl));intro gb759 hg w4 hbox hb;have n0_:=Aside0.mk (below_step (hs HB) hb);have n1_:=Aside0.mk (hbox);have n2_:=Aside0.mk ((by rw [hg];exact (below_size (hs HB)) : w.heap.size ≤ gb759));have n3_:=Aside0.mk ((by rw [hg];exact (below_size (hs HB)) : w.heap.size ≤ gb759));clear HB;have HB:=n0_;have BK759:=n1_;have GW759:=n2_;have GE759:=n3_;clear n0_ n1_ n2_ n3_;clear hb hbox hg) | ((with_reducible refine gate_dst (N:=4) rfl ?_);refine box_event ?hg (N:=4) ?hd (cs:=#[.slice none 0 0]) (t:=59) ?hr ?_;(case hd=>rfl);(case hg=>rfl);(case hr=>first | (go_simp;done) | (go_simp;rfl));intro gb760 hg w5 hbox hb;have n0_:=Aside0.mk (blk_below (g:=gb759) (o:=.cells #[.slice A0_0 l0_0.length c0_0] 59 (0,0)) (bs BK759) hb);have n1_:=Aside0.mk (below_step (hs1 HB GE759) hb);have n2_:=Aside0.mk (hbox);have n3_:=Aside0.mk ((by rw [hg];exact (below_size (hs1 HB GE759)) : w.heap.size ≤ gb760));have n4_:=Aside0.mk ((by rw [hg];exact (below_size (hs1 HB GE759)) : w.heap.size ≤ gb760));have n5_:=Aside0.mk ((by rw [hg];exact Nat.ne_of_lt (blk_lt (g:=gb759) (o:=.cells #[.slice A0_0 l0_0.length c0_0] 59 (0,0)) (bs BK759)) : gb759 ≠ gb760));have n6_:=Aside0.mk ((by rw [hg];exact Nat.ne_of_gt (blk_lt (g:=gb759) (o:=.cells #[.slice A0_0 l0_0.length c0_0] 59 (0,0)) (bs BK759)) : gb760 ≠ gb759));clear BK759;clear HB;have BK759:=n0_;have HB:=n1_;have BK760:=n2_;have GW760:=n3_;have GE760:=n4_;have NB759_760:=n5_;have NB760_759:=n6_;clear n0_ n1_ n2_ n3_ n4_ n5_ n6_;clear hb hbox hg;have hnb6:=NB759_760.out;have hnc6:=NB760_759.out;have hcz7_0 : w5.cell? ⟨gb759,0,none⟩ = some (.slice A0_0 l0_0.length c0_0):=(blk_cell BK759.out 0).trans rfl;have hfz7_0:=blk_frozen BK759.out 0) | ((with_reducible refine gate_callee (f:=79) rfl ?_);refine goesL_ (some 12) rfl rfl Try.func79 (by kernel_rfl) rfl #[.agg #[.slice A0_0 l0_0.length c0_0]] rfl (by (try simp only [List.map_toArray,List.map_cons,List.map_nil]);first | done | rfl | (simp only [List.length_drop,List.length_take];rfl)) ?_;(with_reducible refine (impl_copyFlash.calls k _ _ l0_0 t761 _ ?side1 ?side2 A3.out).mono ?_);(case side1=>repeat (first | exact (Kd.C_below HR0_0.out HB.out) | (with_reducible refine Kd.C_alloc ?_ _) | (with_reducible refine Kd.C_drewN ?_ _) | (with_reducible refine Kd.C_drew ?_)));(case side2=>exact HC0_0.out);rintro e w8 ⟨v762,rfl,ho0,hb⟩;refine ⟨_,rfl,?_⟩;have n0_:=Aside0.mk (Kd.S_lower ho0 (below_size (hs2 HB GE759 GE760)));have n1_:=Aside0.mk (blk_below (g:=gb759) (o:=.cells #[.slice A0_0 l0_0.length c0_0] 59 (0,0)) (bs BK759) hb);have n2_:=Aside0.mk (blk_below (g:=gb760) (o:=.cells #[.slice none 0 0] 59 (0,0)) (bs BK760) hb);have n3_:=Aside0.mk (below_step (hs2 HB GE759 GE760) hb);clear BK759;clear BK760;clear HB;have HO763:=n0_;have BK759:=n1_;have BK760:=n2_;have HB:=n3_;clear n0_ n1_ n2_ n3_;(try clear hb);(try clear hb2);(try clear hk);(try clear hi);(try clear ho0)) | ((with_reducible refine gate_dst (N:=6) rfl ?_);refine box_event ?hg (N:=6) ?hd (cs:=#[.slice none 0 0]) (t:=59) ?hr ?_;(case hd=>rfl);(case hg=>rfl);(case hr=>first | (go_simp;done) | (go_simp;rfl));intro gb764 hg w9 hbox hb;have n0_:=Aside0.mk (Kd.S_below (ss HO763) hb);have n1_:=Aside0.mk (blk_below (g:=gb759) (o:=.cells #[.slice A0_0 l0_0.length c0_0] 59 (0,0)) (bs BK759) hb);have n2_:=Aside0.mk (blk_below (g:=gb760) (o:=.cells #[.slice none 0 0] 59 (0,0)) (bs BK760) hb);have n3_:=Aside0.mk (below_step (hs2 HB GE759 GE760) hb);have n4_:=Aside0.mk (hbox);have n5_:=Aside0.mk ((by rw [hg];exact (below_size (hs2 HB GE759 GE760)) : w.heap.size ≤ gb764));have n6_:=Aside0.mk ((by rw [hg];exact (below_size (hs2 HB GE759 GE760)) : w.heap.size ≤ gb764));have n7_:=Aside0.mk ((by rw [hg];exact Nat.ne_of_lt (blk_lt (g:=gb759) (o:=.cells #[.slice A0_0 l0_0.length c0_0] 59 (0,0)) (bs BK759)) : gb759 ≠ gb764));have n8_:=Aside0.mk ((by rw [hg];exact Nat.ne_of_gt (blk_lt (g:=gb759) (o:=.cells #[.slice A0_0 l0_0.length c0_0] 59 (0,0)) (bs BK759)) : gb764 ≠ gb759));have n9_:=Aside0.mk ((by rw [hg];exact Nat.ne_of_lt (blk_lt (g:=gb760) (o:=.cells #[.slice none 0 0] 59 (0,0)) (bs BK760)) : gb760 ≠ gb764));have n10_:=Aside0.mk ((by rw [hg];exact Nat.ne_of_gt (blk_lt (g:=gb760) (o:=.cells #[.slice none 0 0] 59 (0,0)) (bs BK760)) : gb764 ≠ gb760));clear HO763;clear BK759;clear BK760;clear HB;have HO763:=n0_;have BK759:=n1_;have BK760:=n2_;have HB:=n3_;have BK764:=n4_;have GW764:=n5_;have GE764:=n6_;have NB759_764:=n7_;have NB764_759:=n8_;have NB760_764:=n9_;have NB764_760:=n10_;clear n0_ n1_ n2_ n3_ n4_ n5_ n6_ n7_ n8_ n9_ n10_;clear hb hbox hg;obtain ⟨Ao10,co10,eo10⟩:=Kd.S_slice HO763.out;subst eo10;have hnb11:=NB764_759.out;have hnc11:=NB759_764.out;have hnb12:=NB764_760.out;have hnc12:=NB760_764.out;have hcz13_0 : w9.cell? ⟨gb764,0,none⟩ = some (.slice none 0 0):=(blk_cell BK764.out 0).trans rfl;have hfz13_0:=blk_frozen BK764.out 0));go_loopg [15] k (fun kq v15 w'=>∃ (x15_1 : Int) (x765000_1 : List (S112)) (u765000 : Value),v15 = .int .i64 x15_1 ∧ Aside0 (impl_DoSteps.l0 kq l1 l1 (l1.length : Int) x15_1 x765000_1 = some (r1,r2)) ∧ Aside0 (kq ≤ k) ∧ Aside0 (Kd.S k112 112 w' w.heap.size (fun _=>True) u765000 x765000_1) ∧ Aside0 (w'.heap[gb759]? = some (.cells #[(.slice A0_0 l0_0.length c0_0)] 59 (0,0))) ∧ Aside0 (w'.heap[gb760]? = some (.cells #[(.slice none 0 0)] 59 (0,0))) ∧ Aside0 (w'.heap[gb764]? = some (.cells #[u765000] 59 (0,0))) ∧ Aside0 (Below w.heap.size w w'));case atStart=>exact ⟨(0),(t761),(.slice Ao10 t761.length co10),(by first | rfl | (simp;done) | (simp [*];done)),H',⟨Nat.le_refl _⟩,⟨by (with_reducible repeat (first | apply Kd.S_alloc | apply Kd.S_drewN | apply Kd.S_drew));exact Kd.S_mono (Kd.S_far (p:=⟨gb764,0,none⟩) (Kd.S_types HO763.out BK764.out (by decide)) (fun _ hk=>hk.2) (.slice Ao10 t761.length co10)) (fun _ hk=>trivial)⟩,⟨by (with_reducible repeat (first | refine blk_drewN ?_ _ | refine blk_drew ?_ | refine blk_alloc ?_ _));refine blk_far ?_ NB759_764.out _;(with_reducible repeat (first | refine blk_drewN ?_ _ | refine blk_drew ?_ | refine blk_alloc ?_ _));exact BK759.out⟩,⟨by (with_reducible repeat (first | refine blk_drewN ?_ _ | refine blk_drew ?_ | refine blk_alloc ?_ _));refine blk_far ?_ NB760_764.out _;(with_reducible repeat (first | refine blk_drewN ?_ _ | refine blk_drew ?_ | refine blk_alloc ?_ _));exact BK760.out⟩,⟨by (with_reducible repeat (first | refine blk_drewN ?_ _ | refine blk_drew ?_ | refine blk_alloc ?_ _));refine blk_put (cs:=#[.slice none 0 0]) ?_ 0 _ rfl;(with_reducible repeat (first | refine blk_drewN ?_ _ | refine blk_drew ?_ | refine blk_alloc ?_ _));exact BK764.out⟩,⟨hs3 HB GE759 GE760 GE764⟩⟩
 case round =>
  clear H'
  try clear c1
  try clear p2
  try clear c5
  try clear c6
  try clear c7
  try clear c11
  try clear c12
  try clear hcz13_0
  try clear hcz7_0
  try clear hfz13_0
  try clear hfz7_0
  obtain ⟨x15_1,x765000_1,u765000,rfl,HA,HK1,HO_765000,BK759,BK760,BK764,HB⟩:=hrel;cases gk with
  | zero=>exact absurd HA.out (by simp [impl_DoSteps.l0])
  | succ k1 =>
   have H:=HA.out;clear HA;simp only [impl_DoSteps.l0] at H
   by_cases c14 : x15_1 < (l1.length : Int)
   ·rw [if_pos c14] at H;have c14b0 : decide (x15_1 < (l1.length : Int)) = true:=decide_eq_true c14;clear c14
    by_cases c15 : 0 ≤ x15_1
    ·rw [if_pos c15] at H;have c15b0 : decide (0 ≤ x15_1) = true:=decide_eq_true c15;clear c15
     by_cases c16 : x15_1 < (l1.length : Int)
     ·rw [if_pos c16] at H;have c16b0 : decide (x15_1 < (l1.length : Int)) = true:=decide_eq_true c16;clear c16;replace H:=Option.bind_eq_some_iff.mp H;obtain ⟨⟨t767,t770⟩,A170,H⟩:=H;replace H : (if t770 = true then (impl_DoSteps.l0 k1 l1 l1 (l1.length : Int) (wrap64 (x15_1 + 1)) t767) else (some (x765000_1,x15_1))) = some (r1,r2):=H;have A17:=Aside0.mk A170;clear A170
      by_cases c18 : t770 = true
      ·subst c18;have H1 : (impl_DoSteps.l0 k1 l1 l1 (l1.length : Int) (wrap64 (x15_1 + 1)) t767) = some (r1,r2):=by rw [if_pos rfl] at H;exact H
       clear H;have H:=H1;clear H1;have H':=Aside0.mk H;clear H;have p765 : 0 ≤ (x15_1 : Int):=of_decide_eq_true (by first | (with_reducible assumption) | assumption);have q765 : x15_1 < (l1.length : Int):=of_decide_eq_true (by first | (with_reducible assumption) | assumption);obtain ⟨ad765,e765,hx765_0,hx765_1,hx765_2,hx765_3⟩:=at_T69 HR1.out x15_1 p765 q765;cases e765;replace hx765_0:=(HB.out.cell (World.block_lt_of_cell? w _ hx765_0)).trans hx765_0;replace hx765_1:=(HB.out.cell (World.block_lt_of_cell? w _ hx765_1)).trans hx765_1;replace hx765_2:=(HB.out.cell (World.block_lt_of_cell? w _ hx765_2)).trans hx765_2;replace hx765_3:=(HB.out.cell (World.block_lt_of_cell? w _ hx765_3)).trans hx765_3;replace p765:=eq_true p765;replace q765:=eq_true q765;go_wp2_with (first | ((with_reducible refine gate_dst (N:=8) rfl ?_);refine box_event ?hg (N:=8) ?hd (cs:=#[.int .i64 0,.int .i64 0,.int .i64 0,.string (⟨#[]⟩ : ByteArray)]) (t:=69) ?hr ?_;(case hd=>rfl);(case hg=>rfl);(case hr=>first | (go_simp;done) | (go_simp;rfl));intro gb766 hg w19 hbox hb;have n0_:=Aside0.mk (Kd.S_below (ss HO_765000) hb);have n1_:=Aside0.mk (blk_below (g:=gb759) (o:=.cells #[.slice A0_0 l0_0.length c0_0] 59 (0,0)) (bs BK759) hb);have n2_:=Aside0.mk (blk_below (g:=gb760) (o:=.cells #[.slice none 0 0] 59 (0,0)) (bs BK760) hb);have n3_:=Aside0.mk (blk_below (g:=gb764) (o:=.cells #[u765000] 59 (0,0)) (bs BK764) hb);have n4_:=Aside0.mk (below_step (hs3 HB GE759 GE760 GE764) hb);have n5_:=Aside0.mk (hbox);have n6_:=Aside0.mk ((by rw [hg];exact (below_size (hs3 HB GE759 GE760 GE764)) : w.heap.size ≤ gb766));have n7_:=Aside0.mk ((by rw [hg];exact (below_size (hs3 HB GE759 GE760 GE764)) : w.heap.size ≤ gb766));have n8_:=Aside0.mk ((by rw [hg];exact Nat.ne_of_lt (blk_lt (g:=gb759) (o:=.cells #[.slice A0_0 l0_0.length c0_0] 59 (0,0)) (bs BK759)) : gb759 ≠ gb766));have n9_:=Aside0.mk ((by rw [hg];exact Nat.ne_of_gt (blk_lt (g:=gb759) (o:=.cells #[.slice A0_0 l0_0.length c0_0] 59 (0,0)) (bs BK759)) : gb766 ≠ gb759));have n10_:=Aside0.mk ((by rw [hg];exact Nat.ne_of_lt (blk_lt (g:=gb760) (o:=.cells #[.slice none 0 0] 59 (0,0)) (bs BK760)) : gb760 ≠ gb766));have n11_:=Aside0.mk ((by rw [hg];exact Nat.ne_of_gt (blk_lt (g:=gb760) (o:=.cells #[.slice none 0 0] 59 (0,0)) (bs BK760)) : gb766 ≠ gb760));have n12_:=Aside0.mk ((by rw [hg];exact Nat.ne_of_lt (blk_lt (g:=gb764) (o:=.cells #[u765000] 59 (0,0)) (bs BK764)) : gb764 ≠ gb766));have n13_:=Aside0.mk ((by rw [hg];exact Nat.ne_of_gt (blk_lt (g:=gb764) (o:=.cells #[u765000] 59 (0,0)) (bs BK764)) : gb766 ≠ gb764));clear HO_765000;clear BK759;clear BK760;clear BK764;clear HB;have HO_765000:=n0_;have BK759:=n1_;have BK760:=n2_;have BK764:=n3_;have HB:=n4_;have BK766:=n5_;have GW766:=n6_;have GE766:=n7_;have NB759_766:=n8_;have NB766_759:=n9_;have NB760_766:=n10_;have NB766_760:=n11_;have NB764_766:=n12_;have NB766_764:=n13_;clear n0_ n1_ n2_ n3_ n4_ n5_ n6_ n7_ n8_ n9_ n10_ n11_ n12_ n13_;clear hb hbox hg;have hnb20:=NB766_759.out;have hnc20:=NB759_766.out;have hnb21:=NB766_760.out;have hnc21:=NB760_766.out;have hnb22:=NB766_764.out;have hnc22:=NB764_766.out;have hcz23_0 : w19.cell? ⟨gb766,0,none⟩ = some (.int .i64 0):=(blk_cell BK766.out 0).trans rfl;have hcz23_1 : w19.cell? ⟨gb766,1,none⟩ = some (.int .i64 0):=(blk_cell BK766.out 1).trans rfl;have hcz23_2 : w19.cell? ⟨gb766,2,none⟩ = some (.int .i64 0):=(blk_cell BK766.out 2).trans rfl;have hcz23_3 : w19.cell? ⟨gb766,3,none⟩ = some (.string (⟨#[]⟩ : ByteArray)):=(blk_cell BK766.out 3).trans rfl;have hfz23_0:=blk_frozen BK766.out 0;have hfz23_1:=blk_frozen BK766.out 1;have hfz23_2:=blk_frozen BK766.out 2;have hfz23_3:=blk_frozen BK766.out 3;have hnb24:=NB764_759.out;have hnc24:=NB759_764.out;have hnb25:=NB764_760.out;have hnc25:=NB760_764.out;have hcz26_0 : w19.cell? ⟨gb764,0,none⟩ = some (u765000):=(blk_cell BK764.out 0).trans rfl;have hfz26_0:=blk_frozen BK764.out 0;obtain ⟨Ao27,co27,eo27⟩:=Kd.S_slice HO_765000.out;subst eo27) | ((with_reducible refine gate_callee (f:=40) rfl ?_);refine goesL_ (some 23) rfl rfl Try.func40 (by kernel_rfl) rfl #[.agg #[.slice Ao27 x765000_1.length co27],.agg #[.int .i64 ((rd_T69 l1 x15_1).f0),.int .i64 ((rd_T69 l1 x15_1).f1),.int .i64 ((rd_T69 l1 x15_1).f2),.string ((rd_T69 l1 x15_1).f3)]] rfl (by (try simp only [List.map_toArray,List.map_cons,List.map_nil]);first | done | rfl | (simp only [List.length_drop,List.length_take];rfl)) ?_;(with_reducible refine (impl_DoStep.calls k1 _ _ x765000_1 ((rd_T69 l1 x15_1).f0) ((rd_T69 l1 x15_1).f1) ((rd_T69 l1 x15_1).f2) ((rd_T69 l1 x15_1).f3) t767 true _ ?side1 ?side2 A17.out).mono ?_);(case side1=>refine (Kd.S_reads' (e:=112) (base:=w.heap.size) (ok:=fun k_=>True) (n:=x765000_1.length) (c:=co27) ?_).2.2;exact (by (with_reducible repeat (first | apply Kd.S_alloc | apply Kd.S_drewN | apply Kd.S_drew));exact (Kd.S_mono (Kd.S_far (p:=⟨gb766,3,none⟩) (Kd.S_far (p:=⟨gb766,2,none⟩) (Kd.S_far (p:=⟨gb766,1,none⟩) (Kd.S_far (p:=⟨gb766,0,none⟩) (Kd.S_types HO_765000.out BK766.out (by decide)) (fun _ hk=>hk.2) (.int .i64 ((rd_T69 l1 x15_1).f0))) (fun _ hk=>hk.2) (.int .i64 ((rd_T69 l1 x15_1).f1))) (fun _ hk=>hk.2) (.int .i64 ((rd_T69 l1 x15_1).f2))) (fun _ hk=>hk.2) (.string ((rd_T69 l1 x15_1).f3))) (fun _ h_=>h_.1))));(case side2=>exact (Kd.S_reads' HO_765000.out).2.1);rintro e w28 ⟨v768,rfl,ho0,hb⟩;refine ⟨_,rfl,?_⟩;have n0_:=Aside0.mk (Kd.S_elder' (by (with_reducible repeat (first | apply Kd.S_alloc | apply Kd.S_drewN | apply Kd.S_drew));exact (Kd.S_mono (Kd.S_far (p:=⟨gb766,3,none⟩) (Kd.S_far (p:=⟨gb766,2,none⟩) (Kd.S_far (p:=⟨gb766,1,none⟩) (Kd.S_far (p:=⟨gb766,0,none⟩) (Kd.S_types HO_765000.out BK766.out (by decide)) (fun _ hk=>hk.2) (.int .i64 ((rd_T69 l1 x15_1).f0))) (fun _ hk=>hk.2) (.int .i64 ((rd_T69 l1 x15_1).f1))) (fun _ hk=>hk.2) (.int .i64 ((rd_T69 l1 x15_1).f2))) (fun _ hk=>hk.2) (.string ((rd_T69 l1 x15_1).f3))) (fun _ h_=>h_.1))) (Kd.S_base ho0) hb);have n1_:=Aside0.mk (Kd.S_lower (Kd.S_new' ho0 (Kd.S_lt (by (with_reducible repeat (first | apply Kd.S_alloc | apply Kd.S_drewN | apply Kd.S_drew));exact (Kd.S_mono (Kd.S_far (p:=⟨gb766,3,none⟩) (Kd.S_far (p:=⟨gb766,2,none⟩) (Kd.S_far (p:=⟨gb766,1,none⟩) (Kd.S_far (p:=⟨gb766,0,none⟩) (Kd.S_types HO_765000.out BK766.out (by decide)) (fun _ hk=>hk.2) (.int .i64 ((rd_T69 l1 x15_1).f0))) (fun _ hk=>hk.2) (.int .i64 ((rd_T69 l1 x15_1).f1))) (fun _ hk=>hk.2) (.int .i64 ((rd_T69 l1 x15_1).f2))) (fun _ hk=>hk.2) (.string ((rd_T69 l1 x15_1).f3))) (fun _ h_=>h_.1))))) (below_size (hs4 HB GE759 GE760 GE764 GE766)));have n2_:=Aside0.mk (blk_below (g:=gb759) (o:=.cells #[.slice A0_0 l0_0.length c0_0] 59 (0,0)) (by (with_reducible repeat (first | refine blk_drewN ?_ _ | refine blk_drew ?_ | refine blk_alloc ?_ _));refine blk_far ?_ NB759_766.out _;(with_reducible repeat (first | refine blk_drewN ?_ _ | refine blk_drew ?_ | refine blk_alloc ?_ _));refine blk_far ?_ NB759_766.out _;(with_reducible repeat (first | refine blk_drewN ?_ _ | refine blk_drew ?_ | refine blk_alloc ?_ _));refine blk_far ?_ NB759_766.out _;(with_reducible repeat (first | refine blk_drewN ?_ _ | refine blk_drew ?_ | refine blk_alloc ?_ _));refine blk_far ?_ NB759_766.out _;(with_reducible repeat (first | refine blk_drewN ?_ _ | refine blk_drew ?_ | refine blk_alloc ?_ _));exact BK759.out) hb);have n3_:=Aside0.mk (blk_below (g:=gb760) (o:=.cells #[.slice none 0 0] 59 (0,0)) (by (with_reducible repeat (first | refine blk_drewN ?_ _ | refine blk_drew ?_ | refine blk_alloc ?_ _));refine blk_far ?_ NB760_766.out _;(with_reducible repeat (first | refine blk_drewN ?_ _ | refine blk_drew ?_ | refine blk_alloc ?_ _));refine blk_far ?_ NB760_766.out _;(with_reducible repeat (first | refine blk_drewN ?_ _ | refine blk_drew ?_ | refine blk_alloc ?_ _));refine blk_far ?_ NB760_766.out _;(with_reducible repeat (first | refine blk_drewN ?_ _ | refine blk_drew ?_ | refine blk_alloc ?_ _));refine blk_far ?_ NB760_766.out _;(with_reducible repeat (first | refine blk_drewN ?_ _ | refine blk_drew ?_ | refine blk_alloc ?_ _));exact BK760.out) hb);have n4_:=Aside0.mk (blk_below (g:=gb764) (o:=.cells #[.slice Ao27 x765000_1.length co27] 59 (0,0)) (by (with_reducible repeat (first | refine blk_drewN ?_ _ | refine blk_drew ?_ | refine blk_alloc ?_ _));refine blk_far ?_ NB764_766.out _;(with_reducible repeat (first | refine blk_drewN ?_ _ | refine blk_drew ?_ | refine blk_alloc ?_ _));refine blk_far ?_ NB764_766.out _;(with_reducible repeat (first | refine blk_drewN ?_ _ | refine blk_drew ?_ | refine blk_alloc ?_ _));refine blk_far ?_ NB764_766.out _;(with_reducible repeat (first | refine blk_drewN ?_ _ | refine blk_drew ?_ | refine blk_alloc ?_ _));refine blk_far ?_ NB764_766.out _;(with_reducible repeat (first | refine blk_drewN ?_ _ | refine blk_drew ?_ | refine blk_alloc ?_ _));exact BK764.out) hb);have n5_:=Aside0.mk (blk_below (g:=gb766) (o:=.cells #[.int .i64 ((rd_T69 l1 x15_1).f0),.int .i64 ((rd_T69 l1 x15_1).f1),.int .i64 ((rd_T69 l1 x15_1).f2),.string ((rd_T69 l1 x15_1).f3)] 69 (0,0)) (by (with_reducible repeat (first | refine blk_drewN ?_ _ | refine blk_drew ?_ | refine blk_alloc ?_ _));refine blk_put (cs:=#[.int .i64 ((rd_T69 l1 x15_1).f0),.int .i64 ((rd_T69 l1 x15_1).f1),.int .i64 ((rd_T69 l1 x15_1).f2),.string (⟨#[]⟩ : ByteArray)]) ?_ 3 _ rfl;(with_reducible repeat (first | refine blk_drewN ?_ _ | refine blk_drew ?_ | refine blk_alloc ?_ _));refine blk_put (cs:=#[.int .i64 ((rd_T69 l1 x15_1).f0),.int .i64 ((rd_T69 l1 x15_1).f1),.int .i64 0,.string (⟨#[]⟩ : ByteArray)]) ?_ 2 _ rfl;(with_reducible repeat (first | refine blk_drewN ?_ _ | refine blk_drew ?_ | refine blk_alloc ?_ _));refine blk_put (cs:=#[.int .i64 ((rd_T69 l1 x15_1).f0),.int .i64 0,.int .i64 0,.string (⟨#[]⟩ : ByteArray)]) ?_ 1 _ rfl;(with_reducible repeat (first | refine blk_drewN ?_ _ | refine blk_drew ?_ | refine blk_alloc ?_ _));refine blk_put (cs:=#[.int .i64 0,.int .i64 0,.int .i64 0,.string (⟨#[]⟩ : ByteArray)]) ?_ 0 _ rfl;(with_reducible repeat (first | refine blk_drewN ?_ _ | refine blk_drew ?_ | refine blk_alloc ?_ _));exact BK766.out) hb);have n6_:=Aside0.mk (below_step (hs4 HB GE759 GE760 GE764 GE766) hb);clear HO_765000;clear BK759;clear BK760;clear BK764;clear BK766;clear HB;have HO_765000:=n0_;have HO769:=n1_;have BK759:=n2_;have BK760:=n3_;have BK764:=n4_;have BK766:=n5_;have HB:=n6_;clear n0_ n1_ n2_ n3_ n4_ n5_ n6_;(try clear hb);(try clear hb2);(try clear hk);(try clear hi);(try clear ho0)) | ((with_reducible refine gate_dst (N:=9) rfl ?_);refine box_event ?hg (N:=9) ?hd (cs:=#[.slice none 0 0]) (t:=59) ?hr ?_;(case hd=>rfl);(case hg=>rfl);(case hr=>first | (go_simp;done) | (go_simp;rfl));intro gb771 hg w29 hbox hb;have n0_:=Aside0.mk (Kd.S_below (ss HO_765000) hb);have n1_:=Aside0.mk (Kd.S_below (ss HO769) hb);have n2_:=Aside0.mk (blk_below (g:=gb759) (o:=.cells #[.slice A0_0 l0_0.length c0_0] 59 (0,0)) (bs BK759) hb);have n3_:=Aside0.mk (blk_below (g:=gb760) (o:=.cells #[.slice none 0 0] 59 (0,0)) (bs BK760) hb);have n4_:=Aside0.mk (blk_below (g:=gb764) (o:=.cells #[.slice Ao27 x765000_1.length co27] 59 (0,0)) (bs BK764) hb);have n5_:=Aside0.mk (blk_below (g:=gb766) (o:=.cells #[.int .i64 ((rd_T69 l1 x15_1).f0),.int .i64 ((rd_T69 l1 x15_1).f1),.int .i64 ((rd_T69 l1 x15_1).f2),.string ((rd_T69 l1 x15_1).f3)] 69 (0,0)) (bs BK766) hb);have n6_:=Aside0.mk (below_step (hs4 HB GE759 GE760 GE764 GE766) hb);have n7_:=Aside0.mk (hbox);have n8_:=Aside0.mk ((by rw [hg];exact (below_size (hs4 HB GE759 GE760 GE764 GE766)) : w.heap.size ≤ gb771));have n9_:=Aside0.mk ((by rw [hg];exact (below_size (hs4 HB GE759 GE760 GE764 GE766)) : w.heap.size ≤ gb771));have n10_:=Aside0.mk ((by rw [hg];exact Nat.ne_of_lt (blk_lt (g:=gb759) (o:=.cells #[.slice A0_0 l0_0.length c0_0] 59 (0,0)) (bs BK759)) : gb759 ≠ gb771));have n11_:=Aside0.mk ((by rw [hg];exact Nat.ne_of_gt (blk_lt (g:=gb759) (o:=.cells #[.slice A0_0 l0_0.length c0_0] 59 (0,0)) (bs BK759)) : gb771 ≠ gb759));have n12_:=Aside0.mk ((by rw [hg];exact Nat.ne_of_lt (blk_lt (g:=gb760) (o:=.cells #[.slice none 0 0] 59 (0,0)) (bs BK760)) : gb760 ≠ gb771));have n13_:=Aside0.mk ((by rw [hg];exact Nat.ne_of_gt (blk_lt (g:=gb760) (o:=.cells #[.slice none 0 0] 59 (0,0)) (bs BK760)) : gb771 ≠ gb760));have n14_:=Aside0.mk ((by rw [hg];exact Nat.ne_of_lt (blk_lt (g:=gb764) (o:=.cells #[.slice Ao27 x765000_1.length co27] 59 (0,0)) (bs BK764)) : gb764 ≠ gb771));have n15_:=Aside0.mk ((by rw [hg];exact Nat.ne_of_gt (blk_lt (g:=gb764) (o:=.cells #[.slice Ao27 x765000_1.length co27] 59 (0,0)) (bs BK764)) : gb771 ≠ gb764));have n16_:=Aside0.mk ((by rw [hg];exact Nat.ne_of_lt (blk_lt (g:=gb766) (o:=.cells #[.int .i64 ((rd_T69 l1 x15_1).f0),.int .i64 ((rd_T69 l1 x15_1).f1),.int .i64 ((rd_T69 l1 x15_1).f2),.string ((rd_T69 l1 x15_1).f3)] 69 (0,0)) (bs BK766)) : gb766 ≠ gb771));have n17_:=Aside0.mk ((by rw [hg];exact Nat.ne_of_gt (blk_lt (g:=gb766) (o:=.cells #[.int .i64 ((rd_T69 l1 x15_1).f0),.int .i64 ((rd_T69 l1 x15_1).f1),.int .i64 ((rd_T69 l1 x15_1).f2),.string ((rd_T69 l1 x15_1).f3)] 69 (0,0)) (bs BK766)) : gb771 ≠ gb766));clear HO_765000;clear HO769;clear BK759;clear BK760;clear BK764;clear BK766;clear HB;have HO_765000:=n0_;have HO769:=n1_;have BK759:=n2_;have BK760:=n3_;have BK764:=n4_;have BK766:=n5_;have HB:=n6_;have BK771:=n7_;have GW771:=n8_;have GE771:=n9_;have NB759_771:=n10_;have NB771_759:=n11_;have NB760_771:=n12_;have NB771_760:=n13_;have NB764_771:=n14_;have NB771_764:=n15_;have NB766_771:=n16_;have NB771_766:=n17_;clear n0_ n1_ n2_ n3_ n4_ n5_ n6_ n7_ n8_ n9_ n10_ n11_ n12_ n13_ n14_ n15_ n16_ n17_;clear hb hbox hg;obtain ⟨Ao30,co30,eo30⟩:=Kd.S_slice HO769.out;subst eo30;have hnb31:=NB771_759.out;have hnc31:=NB759_771.out;have hnb32:=NB771_760.out;have hnc32:=NB760_771.out;have hnb33:=NB771_764.out;have hnc33:=NB764_771.out;have hnb34:=NB771_766.out;have hnc34:=NB766_771.out;have hcz35_0 : w29.cell? ⟨gb771,0,none⟩ = some (.slice none 0 0):=(blk_cell BK771.out 0).trans rfl;have hfz35_0:=blk_frozen BK771.out 0;have hcz36_0 : w29.cell? ⟨gb764,0,none⟩ = some (.slice Ao27 x765000_1.length co27):=(blk_cell BK764.out 0).trans rfl;have hfz36_0:=blk_frozen BK764.out 0));go_roundg k1;case measure=>have:=HK1.out;omega
       case rel=>exact ⟨(wrap64 (x15_1 + 1)),(t767),(.slice Ao30 t767.length co30),(by first | rfl | (simp;done) | (simp [*];done)),H',⟨by have:=HK1.out;omega⟩,⟨by (with_reducible repeat (first | apply Kd.S_alloc | apply Kd.S_drewN | apply Kd.S_drew));exact Kd.S_mono (Kd.S_far (p:=⟨gb764,0,none⟩) (Kd.S_far (p:=⟨gb771,0,none⟩) (Kd.S_types (Kd.S_types HO769.out BK771.out (by decide)) BK764.out (by decide)) (fun _ hk=>hk.1.2) (.slice Ao30 t767.length co30)) (fun _ hk=>hk.2) (.slice Ao30 t767.length co30)) (fun _ hk=>trivial)⟩,⟨by (with_reducible repeat (first | refine blk_drewN ?_ _ | refine blk_drew ?_ | refine blk_alloc ?_ _));refine blk_far ?_ NB759_764.out _;(with_reducible repeat (first | refine blk_drewN ?_ _ | refine blk_drew ?_ | refine blk_alloc ?_ _));refine blk_far ?_ NB759_771.out _;(with_reducible repeat (first | refine blk_drewN ?_ _ | refine blk_drew ?_ | refine blk_alloc ?_ _));exact BK759.out⟩,⟨by (with_reducible repeat (first | refine blk_drewN ?_ _ | refine blk_drew ?_ | refine blk_alloc ?_ _));refine blk_far ?_ NB760_764.out _;(with_reducible repeat (first | refine blk_drewN ?_ _ | refine blk_drew ?_ | refine blk_alloc ?_ _));refine blk_far ?_ NB760_771.out _;(with_reducible repeat (first | refine blk_drewN ?_ _ | refine blk_drew ?_ | refine blk_alloc ?_ _));exact BK760.out⟩,⟨by (with_reducible repeat (first | refine blk_drewN ?_ _ | refine blk_drew ?_ | refine blk_alloc ?_ _));refine blk_put (cs:=#[.slice Ao27 x765000_1.length co27]) ?_ 0 _ rfl;(with_reducible repeat (first | refine blk_drewN ?_ _ | refine blk_drew ?_ | refine blk_alloc ?_ _));refine blk_far ?_ NB764_771.out _;(with_reducible repeat (first | refine blk_drewN ?_ _ | refine blk_drew ?_ | refine blk_alloc ?_ _));exact BK764.out⟩,⟨hs5 HB GE759 GE760 GE764 GE766 GE771⟩⟩
      replace c18:=Bool.eq_false_iff.mpr c18;subst c18;have H1 : (some (x765000_1,x15_1)) = some (r1,r2):=by rw [if_neg (show ¬ (false = true) by decide)] at H;exact H
      clear H;have H:=H1;clear H1;simp only [Option.some.injEq,Prod.mk.injEq] at H;obtain ⟨rfl,rfl⟩:=H;have p765 : 0 ≤ (x15_1 : Int):=of_decide_eq_true (by first | (with_reducible assumption) | assumption);have q765 : x15_1 < (l1.length : Int):=of_decide_eq_true (by first | (with_reducible assumption) | assumption);obtain ⟨ad765,e765,hx765_0,hx765_1,hx765_2,hx765_3⟩:=at_T69 HR1.out x15_1 p765 q765;cases e765;replace hx765_0:=(HB.out.cell (World.block_lt_of_cell? w _ hx765_0)).trans hx765_0;replace hx765_1:=(HB.out.cell (World.block_lt_of_cell? w _ hx765_1)).trans hx765_1;replace hx765_2:=(HB.out.cell (World.block_lt_of_cell? w _ hx765_2)).trans hx765_2;replace hx765_3:=(HB.out.cell (World.block_lt_of_cell? w _ hx765_3)).trans hx765_3;replace p765:=eq_true p765;replace q765:=eq_true q765;go_wp2_with (first | ((with_reducible refine gate_dst (N:=8) rfl ?_);refine box_event ?hg (N:=8) ?hd (cs:=#[.int .i64 0,.int .i64 0,.int .i64 0,.string (⟨#[]⟩ : ByteArray)]) (t:=69) ?hr ?_;(case hd=>rfl);(case hg=>rfl);(case hr=>first | (go_simp;done) | (go_simp;rfl));intro gb766 hg w37 hbox hb;have n0_:=Aside0.mk (Kd.S_below (ss HO_765000) hb);have n1_:=Aside0.mk (blk_below (g:=gb759) (o:=.cells #[.slice A0_0 l0_0.length c0_0] 59 (0,0)) (bs BK759) hb);have n2_:=Aside0.mk (blk_below (g:=gb760) (o:=.cells #[.slice none 0 0] 59 (0,0)) (bs BK760) hb);have n3_:=Aside0.mk (blk_below (g:=gb764) (o:=.cells #[u765000] 59 (0,0)) (bs BK764) hb);have n4_:=Aside0.mk (below_step (hs3 HB GE759 GE760 GE764) hb);have n5_:=Aside0.mk (hbox);have n6_:=Aside0.mk ((by rw [hg];exact (below_size (hs3 HB GE759 GE760 GE764)) : w.heap.size ≤ gb766));have n7_:=Aside0.mk ((by rw [hg];exact (below_size (hs3 HB GE759 GE760 GE764)) : w.heap.size ≤ gb766));have n8_:=Aside0.mk ((by rw [hg];exact Nat.ne_of_lt (blk_lt (g:=gb759) (o:=.cells #[.slice A0_0 l0_0.length c0_0] 59 (0,0)) (bs BK759)) : gb759 ≠ gb766));have n9_:=Aside0.mk ((by rw [hg];exact Nat.ne_of_gt (blk_lt (g:=gb759) (o:=.cells #[.slice A0_0 l0_0.length c0_0] 59 (0,0)) (bs BK759)) : gb766 ≠ gb759));have n10_:=Aside0.mk ((by rw [hg];exact Nat.ne_of_lt (blk_lt (g:=gb760) (o:=.cells #[.slice none 0 0] 59 (0,0)) (bs BK760)) : gb760 ≠ gb766));have n11_:=Aside0.mk ((by rw [hg];exact Nat.ne_of_gt (blk_lt (g:=gb760) (o:=.cells #[.slice none 0 0] 59 (0,0)) (bs BK760)) : gb766 ≠ gb760));have n12_:=Aside0.mk ((by rw [hg];exact Nat.ne_of_lt (blk_lt (g:=gb764) (o:=.cells #[u765000] 59 (0,0)) (bs BK764)) : gb764 ≠ gb766));have n13_:=Aside0.mk ((by rw [hg];exact Nat.ne_of_gt (blk_lt (g:=gb764) (o:=.cells #[u765000] 59 (0,0)) (bs BK764)) : gb766 ≠ gb764));clear HO_765000;clear BK759;clear BK760;clear BK764;clear HB;have HO_765000:=n0_;have BK759:=n1_;have BK760:=n2_;have BK764:=n3_;have HB:=n4_;have BK766:=n5_;have GW766:=n6_;have GE766:=n7_;have NB759_766:=n8_;have NB766_759:=n9_;have NB760_766:=n10_;have NB766_760:=n11_;have NB764_766:=n12_;have NB766_764:=n13_;clear n0_ n1_ n2_ n3_ n4_ n5_ n6_ n7_ n8_ n9_ n10_ n11_ n12_ n13_;clear hb hbox hg;have hnb38:=NB766_759.out;have hnc38:=NB759_766.out;have hnb39:=NB766_760.out;have hnc39:=NB760_766.out;have hnb40:=NB766_764.out;have hnc40:=NB764_766.out;have hcz41_0 : w37.cell? ⟨gb766,0,none⟩ = some (.int .i64 0):=(blk_cell BK766.out 0).trans rfl;have hcz41_1 : w37.cell? ⟨gb766,1,none⟩ = some (.int .i64 0):=(blk_cell BK766.out 1).trans rfl;have hcz41_2 : w37.cell? ⟨gb766,2,none⟩ = some (.int .i64 0):=(blk_cell BK766.out 2).trans rfl;have hcz41_3 : w37.cell? ⟨gb766,3,none⟩ = some (.string (⟨#[]⟩ : ByteArray)):=(blk_cell BK766.out 3).trans rfl;have hfz41_0:=blk_frozen BK766.out 0;have hfz41_1:=blk_frozen BK766.out 1;have hfz41_2:=blk_frozen BK766.out 2;have hfz41_3:=blk_frozen BK766.out 3;have hnb42:=NB764_759.out;have hnc42:=NB759_764.out;have hnb43:=NB764_760.out;have hnc43:=NB760_764.out;have hcz44_0 : w37.cell? ⟨gb764,0,none⟩ = some (u765000):=(blk_cell BK764.out 0).trans rfl;have hfz44_0:=blk_frozen BK764.out 0;obtain ⟨Ao45,co45,eo45⟩:=Kd.S_slice HO_765000.out;subst eo45) | ((with_reducible refine gate_callee (f:=40) rfl ?_);refine goesL_ (some 23) rfl rfl Try.func40 (by kernel_rfl) rfl #[.agg #[.slice Ao45 x765000_1.length co45],.agg #[.int .i64 ((rd_T69 l1 x15_1).f0),.int .i64 ((rd_T69 l1 x15_1).f1),.int .i64 ((rd_T69 l1 x15_1).f2),.string ((rd_T69 l1 x15_1).f3)]] rfl (by (try simp only [List.map_toArray,List.map_cons,List.map_nil]);first | done | rfl | (simp only [List.length_drop,List.length_take];rfl)) ?_;(with_reducible refine (impl_DoStep.calls k1 _ _ x765000_1 ((rd_T69 l1 x15_1).f0) ((rd_T69 l1 x15_1).f1) ((rd_T69 l1 x15_1).f2) ((rd_T69 l1 x15_1).f3) t767 false _ ?side1 ?side2 A17.out).mono ?_);(case side1=>refine (Kd.S_reads' (e:=112) (base:=w.heap.size) (ok:=fun k_=>True) (n:=x765000_1.length) (c:=co45) ?_).2.2;exact (by (with_reducible repeat (first | apply Kd.S_alloc | apply Kd.S_drewN | apply Kd.S_drew));exact (Kd.S_mono (Kd.S_far (p:=⟨gb766,3,none⟩) (Kd.S_far (p:=⟨gb766,2,none⟩) (Kd.S_far (p:=⟨gb766,1,none⟩) (Kd.S_far (p:=⟨gb766,0,none⟩) (Kd.S_types HO_765000.out BK766.out (by decide)) (fun _ hk=>hk.2) (.int .i64 ((rd_T69 l1 x15_1).f0))) (fun _ hk=>hk.2) (.int .i64 ((rd_T69 l1 x15_1).f1))) (fun _ hk=>hk.2) (.int .i64 ((rd_T69 l1 x15_1).f2))) (fun _ hk=>hk.2) (.string ((rd_T69 l1 x15_1).f3))) (fun _ h_=>h_.1))));(case side2=>exact (Kd.S_reads' HO_765000.out).2.1);rintro e w46 ⟨v768,rfl,ho0,hb⟩;refine ⟨_,rfl,?_⟩;have n0_:=Aside0.mk (Kd.S_elder' (by (with_reducible repeat (first | apply Kd.S_alloc | apply Kd.S_drewN | apply Kd.S_drew));exact (Kd.S_mono (Kd.S_far (p:=⟨gb766,3,none⟩) (Kd.S_far (p:=⟨gb766,2,none⟩) (Kd.S_far (p:=⟨gb766,1,none⟩) (Kd.S_far (p:=⟨gb766,0,none⟩) (Kd.S_types HO_765000.out BK766.out (by decide)) (fun _ hk=>hk.2) (.int .i64 ((rd_T69 l1 x15_1).f0))) (fun _ hk=>hk.2) (.int .i64 ((rd_T69 l1 x15_1).f1))) (fun _ hk=>hk.2) (.int .i64 ((rd_T69 l1 x15_1).f2))) (fun _ hk=>hk.2) (.string ((rd_T69 l1 x15_1).f3))) (fun _ h_=>h_.1))) (Kd.S_base ho0) hb);have n1_:=Aside0.mk (Kd.S_lower (Kd.S_new' ho0 (Kd.S_lt (by (with_reducible repeat (first | apply Kd.S_alloc | apply Kd.S_drewN | apply Kd.S_drew));exact (Kd.S_mono (Kd.S_far (p:=⟨gb766,3,none⟩) (Kd.S_far (p:=⟨gb766,2,none⟩) (Kd.S_far (p:=⟨gb766,1,none⟩) (Kd.S_far (p:=⟨gb766,0,none⟩) (Kd.S_types HO_765000.out BK766.out (by decide)) (fun _ hk=>hk.2) (.int .i64 ((rd_T69 l1 x15_1).f0))) (fun _ hk=>hk.2) (.int .i64 ((rd_T69 l1 x15_1).f1))) (fun _ hk=>hk.2) (.int .i64 ((rd_T69 l1 x15_1).f2))) (fun _ hk=>hk.2) (.string ((rd_T69 l1 x15_1).f3))) (fun _ h_=>h_.1))))) (below_size (hs4 HB GE759 GE760 GE764 GE766)));have n2_:=Aside0.mk (blk_below (g:=gb759) (o:=.cells #[.slice A0_0 l0_0.length c0_0] 59 (0,0)) (by (with_reducible repeat (first | refine blk_drewN ?_ _ | refine blk_drew ?_ | refine blk_alloc ?_ _));refine blk_far ?_ NB759_766.out _;(with_reducible repeat (first | refine blk_drewN ?_ _ | refine blk_drew ?_ | refine blk_alloc ?_ _));refine blk_far ?_ NB759_766.out _;(with_reducible repeat (first | refine blk_drewN ?_ _ | refine blk_drew ?_ | refine blk_alloc ?_ _));refine blk_far ?_ NB759_766.out _;(with_reducible repeat (first | refine blk_drewN ?_ _ | refine blk_drew ?_ | refine blk_alloc ?_ _));refine blk_far ?_ NB759_766.out _;(with_reducible repeat (first | refine blk_drewN ?_ _ | refine blk_drew ?_ | refine blk_alloc ?_ _));exact BK759.out) hb);have n3_:=Aside0.mk (blk_below (g:=gb760) (o:=.cells #[.slice none 0 0] 59 (0,0)) (by (with_reducible repeat (first | refine blk_drewN ?_ _ | refine blk_drew ?_ | refine blk_alloc ?_ _));refine blk_far ?_ NB760_766.out _;(with_reducible repeat (first | refine blk_drewN ?_ _ | refine blk_drew ?_ | refine blk_alloc ?_ _));refine blk_far ?_ NB760_766.out _;(with_reducible repeat (first | refine blk_drewN ?_ _ | refine blk_drew ?_ | refine blk_alloc ?_ _));refine blk_far ?_ NB760_766.out _;(with_reducible repeat (first | refine blk_drewN ?_ _ | refine blk_drew ?_ | refine blk_alloc ?_ _));refine blk_far ?_ NB760_766.out _;(with_reducible repeat (first | refine blk_drewN ?_ _ | refine blk_drew ?_ | refine blk_alloc ?_ _));exact BK760.out) hb);have n4_:=Aside0.mk (blk_below (g:=gb764) (o:=.cells #[.slice Ao45 x765000_1.length co45] 59 (0,0)) (by (with_reducible repeat (first | refine blk_drewN ?_ _ | refine blk_drew ?_ | refine blk_alloc ?_ _));refine blk_far ?_ NB764_766.out _;(with_reducible repeat (first | refine blk_drewN ?_ _ | refine blk_drew ?_ | refine blk_alloc ?_ _));refine blk_far ?_ NB764_766.out _;(with_reducible repeat (first | refine blk_drewN ?_ _ | refine blk_drew ?_ | refine blk_alloc ?_ _));refine blk_far ?_ NB764_766.out _;(with_reducible repeat (first | refine blk_drewN ?_ _ | refine blk_drew ?_ | refine blk_alloc ?_ _));refine blk_far ?_ NB764_766.out _;(with_reducible repeat (first | refine blk_drewN ?_ _ | refine blk_drew ?_ | refine blk_alloc ?_ _));exact BK764.out) hb);have n5_:=Aside0.mk (blk_below (g:=gb766) (o:=.cells #[.int .i64 ((rd_T69 l1 x15_1).f0),.int .i64 ((rd_T69 l1 x15_1).f1),.int .i64 ((rd_T69 l1 x15_1).f2),.string ((rd_T69 l1 x15_1).f3)] 69 (0,0)) (by (with_reducible repeat (first | refine blk_drewN ?_ _ | refine blk_drew ?_ | refine blk_alloc ?_ _));refine blk_put (cs:=#[.int .i64 ((rd_T69 l1 x15_1).f0),.int .i64 ((rd_T69 l1 x15_1).f1),.int .i64 ((rd_T69 l1 x15_1).f2),.string (⟨#[]⟩ : ByteArray)]) ?_ 3 _ rfl;(with_reducible repeat (first | refine blk_drewN ?_ _ | refine blk_drew ?_ | refine blk_alloc ?_ _));refine blk_put (cs:=#[.int .i64 ((rd_T69 l1 x15_1).f0),.int .i64 ((rd_T69 l1 x15_1).f1),.int .i64 0,.string (⟨#[]⟩ : ByteArray)]) ?_ 2 _ rfl;(with_reducible repeat (first | refine blk_drewN ?_ _ | refine blk_drew ?_ | refine blk_alloc ?_ _));refine blk_put (cs:=#[.int .i64 ((rd_T69 l1 x15_1).f0),.int .i64 0,.int .i64 0,.string (⟨#[]⟩ : ByteArray)]) ?_ 1 _ rfl;(with_reducible repeat (first | refine blk_drewN ?_ _ | refine blk_drew ?_ | refine blk_alloc ?_ _));refine blk_put (cs:=#[.int .i64 0,.int .i64 0,.int .i64 0,.string (⟨#[]⟩ : ByteArray)]) ?_ 0 _ rfl;(with_reducible repeat (first | refine blk_drewN ?_ _ | refine blk_drew ?_ | refine blk_alloc ?_ _));exact BK766.out) hb);have n6_:=Aside0.mk (below_step (hs4 HB GE759 GE760 GE764 GE766) hb);clear HO_765000;clear BK759;clear BK760;clear BK764;clear BK766;clear HB;have HO_765000:=n0_;have HO769:=n1_;have BK759:=n2_;have BK760:=n3_;have BK764:=n4_;have BK766:=n5_;have HB:=n6_;clear n0_ n1_ n2_ n3_ n4_ n5_ n6_;(try clear hb);(try clear hb2);(try clear hk);(try clear hi);(try clear ho0)) | ((with_reducible refine gate_dst (N:=9) rfl ?_);refine box_event ?hg (N:=9) ?hd (cs:=#[.slice none 0 0]) (t:=59) ?hr ?_;(case hd=>rfl);(case hg=>rfl);(case hr=>first | (go_simp;done) | (go_simp;rfl));intro gb771 hg w47 hbox hb;have n0_:=Aside0.mk (Kd.S_below (ss HO_765000) hb);have n1_:=Aside0.mk (Kd.S_below (ss HO769) hb);have n2_:=Aside0.mk (blk_below (g:=gb759) (o:=.cells #[.slice A0_0 l0_0.length c0_0] 59 (0,0)) (bs BK759) hb);have n3_:=Aside0.mk (blk_below (g:=gb760) (o:=.cells #[.slice none 0 0] 59 (0,0)) (bs BK760) hb);have n4_:=Aside0.mk (blk_below (g:=gb764) (o:=.cells #[.slice Ao45 x765000_1.length co45] 59 (0,0)) (bs BK764) hb);have n5_:=Aside0.mk (blk_below (g:=gb766) (o:=.cells #[.int .i64 ((rd_T69 l1 x15_1).f0),.int .i64 ((rd_T69 l1 x15_1).f1),.int .i64 ((rd_T69 l1 x15_1).f2),.string ((rd_T69 l1 x15_1).f3)] 69 (0,0)) (bs BK766) hb);have n6_:=Aside0.mk (below_step (hs4 HB GE759 GE760 GE764 GE766) hb);have n7_:=Aside0.mk (hbox);have n8_:=Aside0.mk ((by rw [hg];exact (below_size (hs4 HB GE759 GE760 GE764 GE766)) : w.heap.size ≤ gb771));have n9_:=Aside0.mk ((by rw [hg];exact (below_size (hs4 HB GE759 GE760 GE764 GE766)) : w.heap.size ≤ gb771));have n10_:=Aside0.mk ((by rw [hg];exact Nat.ne_of_lt (blk_lt (g:=gb759) (o:=.cells #[.slice A0_0 l0_0.length c0_0] 59 (0,0)) (bs BK759)) : gb759 ≠ gb771));have n11_:=Aside0.mk ((by rw [hg];exact Nat.ne_of_gt (blk_lt (g:=gb759) (o:=.cells #[.slice A0_0 l0_0.length c0_0] 59 (0,0)) (bs BK759)) : gb771 ≠ gb759));have n12_:=Aside0.mk ((by rw [hg];exact Nat.ne_of_lt (blk_lt (g:=gb760) (o:=.cells #[.slice none 0 0] 59 (0,0)) (bs BK760)) : gb760 ≠ gb771));have n13_:=Aside0.mk ((by rw [hg];exact Nat.ne_of_gt (blk_lt (g:=gb760) (o:=.cells #[.slice none 0 0] 59 (0,0)) (bs BK760)) : gb771 ≠ gb760));have n14_:=Aside0.mk ((by rw [hg];exact Nat.ne_of_lt (blk_lt (g:=gb764) (o:=.cells #[.slice Ao45 x765000_1.length co45] 59 (0,0)) (bs BK764)) : gb764 ≠ gb771));have n15_:=Aside0.mk ((by rw [hg];exact Nat.ne_of_gt (blk_lt (g:=gb764) (o:=.cells #[.slice Ao45 x765000_1.length co45] 59 (0,0)) (bs BK764)) : gb771 ≠ gb764));have n16_:=Aside0.mk ((by rw [hg];exact Nat.ne_of_lt (blk_lt (g:=gb766) (o:=.cells #[.int .i64 ((rd_T69 l1 x15_1).f0),.int .i64 ((rd_T69 l1 x15_1).f1),.int .i64 ((rd_T69 l1 x15_1).f2),.string ((rd_T69 l1 x15_1).f3)] 69 (0,0)) (bs BK766)) : gb766 ≠ gb771));have n17_:=Aside0.mk ((by rw [hg];exact Nat.ne_of_gt (blk_lt (g:=gb766) (o:=.cells #[.int .i64 ((rd_T69 l1 x15_1).f0),.int .i64 ((rd_T69 l1 x15_1).f1),.int .i64 ((rd_T69 l1 x15_1).f2),.string ((rd_T69 l1 x15_1).f3)] 69 (0,0)) (bs BK766)) : gb771 ≠ gb766));clear HO_765000;clear HO769;clear BK759;clear BK760;clear BK764;clear BK766;clear HB;have HO_765000:=n0_;have HO769:=n1_;have BK759:=n2_;have BK760:=n3_;have BK764:=n4_;have BK766:=n5_;have HB:=n6_;have BK771:=n7_;have GW771:=n8_;have GE771:=n9_;have NB759_771:=n10_;have NB771_759:=n11_;have NB760_771:=n12_;have NB771_760:=n13_;have NB764_771:=n14_;have NB771_764:=n15_;have NB766_771:=n16_;have NB771_766:=n17_;clear n0_ n1_ n2_ n3_ n4_ n5_ n6_ n7_ n8_ n9_ n10_ n11_ n12_ n13_ n14_ n15_ n16_ n17_;clear hb hbox hg;obtain ⟨Ao48,co48,eo48⟩:=Kd.S_slice HO769.out;subst eo48;have hnb49:=NB771_759.out;have hnc49:=NB759_771.out;have hnb50:=NB771_760.out;have hnc50:=NB760_771.out;have hnb51:=NB771_764.out;have hnc51:=NB764_771.out;have hnb52:=NB771_766.out;have hnc52:=NB766_771.out;have hcz53_0 : w47.cell? ⟨gb771,0,none⟩ = some (.slice none 0 0):=(blk_cell BK771.out 0).trans rfl;have hfz53_0:=blk_frozen BK771.out 0;have hcz54_0 : w47.cell? ⟨gb764,0,none⟩ = some (.slice Ao45 x765000_1.length co45):=(blk_cell BK764.out 0).trans rfl;have hfz54_0:=blk_frozen BK764.out 0;have hnb55:=NB760_759.out;have hnc55:=NB759_760.out;have hcz56_0 : w47.cell? ⟨gb760,0,none⟩ = some (.slice none 0 0):=(blk_cell BK760.out 0).trans rfl;have hfz56_0:=blk_frozen BK760.out 0));refine bodyPost_ret (results_ct rfl _ _ gb760 59 #[.slice Ao45 x765000_1.length co45] (0,0) _ rfl (by (with_reducible repeat (first | refine blk_drewN ?_ _ | refine blk_drew ?_ | refine blk_alloc ?_ _));refine blk_put (cs:=#[.slice none 0 0]) ?_ 0 _ rfl;(with_reducible repeat (first | refine blk_drewN ?_ _ | refine blk_drew ?_ | refine blk_alloc ?_ _));refine blk_far ?_ NB760_771.out _;(with_reducible repeat (first | refine blk_drewN ?_ _ | refine blk_drew ?_ | refine blk_alloc ?_ _));exact BK760.out) Try.underlying59 rfl (by kernel_rfl)) rfl ?_
      exact ⟨_,by first | rfl | (simp [errW_none,errW_some] <;> rfl) | (simp [*,errW_none,errW_some] <;> rfl),by (with_reducible repeat (first | apply Kd.S_alloc | apply Kd.S_drewN | apply Kd.S_drew));exact Kd.S_mono (Kd.S_far (p:=⟨gb760,0,none⟩) (Kd.S_far (p:=⟨gb771,0,none⟩) (Kd.S_types (Kd.S_types HO_765000.out BK771.out (by decide)) BK760.out (by decide)) (fun _ hk=>hk.1.2) (.slice Ao48 t767.length co48)) (fun _ hk=>hk.2) (.slice Ao45 x765000_1.length co45)) (fun _ hk=>trivial),hs5 HB GE759 GE760 GE764 GE766 GE771⟩
     rw [if_neg c16] at H;exact absurd H (by simp)
    rw [if_neg c15] at H;exact absurd H (by simp)
   rw [if_neg c14] at H;have c14b0 : decide (x15_1 < (l1.length : Int)) = false:=decide_eq_false c14;clear c14;simp only [Option.some.injEq,Prod.mk.injEq] at H;obtain ⟨rfl,rfl⟩:=H;have hnb57:=NB764_759.out;have hnc57:=NB759_764.out;have hnb58:=NB764_760.out;have hnc58:=NB760_764.out;have hcz59_0 : wr.cell? ⟨gb764,0,none⟩ = some (u765000):=(blk_cell BK764.out 0).trans rfl;have hfz59_0:=blk_frozen BK764.out 0;obtain ⟨Ao60,co60,eo60⟩:=Kd.S_slice HO_765000.out;subst eo60;have hnb61:=NB760_759.out;have hnc61:=NB759_760.out;have hcz62_0 : wr.cell? ⟨gb760,0,none⟩ = some (.slice none 0 0):=(blk_cell BK760.out 0).trans rfl;have hfz62_0:=blk_frozen BK760.out 0
   go_wp2
   refine bodyPost_ret (results_ct rfl _ _ gb760 59 #[.slice Ao60 x765000_1.length co60] (0,0) _ rfl (by (with_reducible repeat (first | refine blk_drewN ?_ _ | refine blk_drew ?_ | refine blk_alloc ?_ _));refine blk_put (cs:=#[.slice none 0 0]) ?_ 0 _ rfl;(with_reducible repeat (first | refine blk_drewN ?_ _ | refine blk_drew ?_ | refine blk_alloc ?_ _));exact BK760.out) Try.underlying59 rfl (by kernel_rfl)) rfl ?_;exact ⟨_,by first | rfl | (simp [errW_none,errW_some] <;> rfl) | (simp [*,errW_none,errW_some] <;> rfl),by (with_reducible repeat (first | apply Kd.S_alloc | apply Kd.S_drewN | apply Kd.S_drew));exact Kd.S_mono (Kd.S_far (p:=⟨gb760,0,none⟩) (Kd.S_types HO_765000.out BK760.out (by decide)) (fun _ hk=>hk.2) (.slice Ao60 x765000_1.length co60)) (fun _ hk=>trivial),hs3 HB GE759 GE760 GE764⟩
end Go.Proofs.Ytijbejiajaiciaa.PC

/- Steps on a flash: a leaf programmed, a block wiped; the program's and the reference's DoStep and DoSteps do them. -/
namespace Go.Proofs.Ytijbejiajaiciaa.Pu
set_option linter.unusedVariables false
set_option linter.unusedSimpArgs false
open Go.RowKit Go.Proofs.Ytijbejiajaiciaa.PC Go.Proofs.YtijbejiajaiciaaW.PrintWords

theorem dropS {α : Type} {l : List α} {i : Nat} (z : α) (h : i < l.length) : l.drop i = l.getD i z :: l.drop (i + 1) := by
  rw [List.drop_eq_getElem_cons h, List.getD_eq_getElem?_getD, List.getElem?_eq_getElem h]; rfl
theorem iCopyF_ev (f : List S112) (hn : f.length ≤ 1048576) (hk : ∀ x ∈ f, x.f2.length ≤ 1048576) : Ev (fun k => impl_copyFlash.f k f) f := by
  have main : ∀ (d i : Nat) (acc : List S112), i + d = f.length → acc.length = i → Ev (fun k => impl_copyFlash.l0 k f (f.length : Int) (i : Int) acc) (acc ++ f.drop i) := by
    intro d
    induction d with
    | zero => intro i acc hi hl; exact ev_some fun k => by simp only [impl_copyFlash.l0]; rw [if_neg (by omega), List.drop_eq_nil_of_le (by omega), List.append_nil]
    | succ d ih =>
      intro i acc hi hl
      have hm := hk _ (getD_mem' (z := z112) (show i < f.length by omega))
      have h := ih (i + 1) (acc ++ [f.getD i z112]) (by omega) (by rw [List.length_append, hl]; rfl)
      rw [List.append_assoc, List.singleton_append] at h
      rw [dropS z112 (by omega)]
      refine Ev.step (fun k => ?_) h
      simp only [impl_copyFlash.l0]
      rw [if_pos (by omega), if_pos (by omega), if_pos (by omega), rdIB_nat, if_pos (by simp only [List.length_nil]; omega), if_pos (by omega), wsucc (n := f.length) (by omega) (by omega), List.nil_append]
  exact main f.length 0 [] (by omega) rfl
theorem sCopyF_ev (f : List S112) (hn : f.length ≤ 1048576) (hk : ∀ x ∈ f, x.f2.length ≤ 1048576) : Ev (fun k => spec_l05Copy.f k f) f := by
  have main : ∀ (d i : Nat) (acc : List S112), i + d = f.length → acc.length = i → Ev (fun k => spec_l05Copy.l0 k (i : Int) f acc) (acc ++ f.drop i) := by
    intro d
    induction d with
    | zero => intro i acc hi hl; exact ev_some fun k => by simp only [spec_l05Copy.l0]; rw [if_neg (by omega), List.drop_eq_nil_of_le (by omega), List.append_nil]
    | succ d ih =>
      intro i acc hi hl
      have hm := hk _ (getD_mem' (z := z112) (show i < f.length by omega))
      have h := ih (i + 1) (acc ++ [f.getD i z112]) (by omega) (by rw [List.length_append, hl]; rfl)
      rw [List.append_assoc, List.singleton_append] at h
      rw [dropS z112 (by omega)]
      refine Ev.step (fun k => ?_) h
      simp only [spec_l05Copy.l0]
      rw [if_pos (by omega), if_pos (by omega), rdIB_nat]
      simp only [Option.bind_some]
      rw [if_pos (by simp only [List.length_nil]; omega), if_pos (by omega), wsucc (n := f.length) (by omega) (by omega), List.nil_append]
  exact main f.length 0 [] (by omega) rfl
def useB (f : List S112) (b : Int) : Bool := flashB f && (decide (0 ≤ b ∧ b ≤ (f.length : Int) - 1) && !(f.getD b.toNat z112).f0)
theorem rdB_toNat (f : List S112) (b : Int) : rd_T112 f b = f.getD b.toNat z112 := rfl
theorem iUse_ev (f : List S112) (b : Int) (hn : f.length ≤ 1048576) (hk : ∀ x ∈ f, x.f2.length ≤ 1048576) : Ev (fun k => impl_usable.f k f b) (useB f b) := by
  unfold impl_usable.f useB
  refine ev_bind (iFlashOk_ev f hn hk) ?_
  by_cases h : flashB f = true
  · simp only [if_pos h, inF_eq, Option.bind_some, w64 (x := (f.length : Int) - 1) (by omega) (by omega), h, Bool.true_and]
    by_cases h2 : 0 ≤ b ∧ b ≤ (f.length : Int) - 1
    · simp only [decide_eq_true h2, if_true, if_pos h2.1, if_pos (show b < (f.length : Int) by omega), Bool.true_and, rdB_toNat]
      exact Ev.now _
    · simp only [decide_eq_false h2, Bool.false_eq_true, if_false, Bool.false_and]
      exact Ev.now _
  · simp only [if_neg h, Bool.eq_false_iff.mpr h, Bool.false_and]
    exact Ev.now _
def progOk (f : List S112) (b a : Int) (t : ByteArray) : Bool := useB f b && (decide (0 ≤ a ∧ a ≤ 3) && (decide (a = nextB (f.getD b.toNat z112).f2) && decide (1 ≤ (t.size : Int) ∧ (t.size : Int) ≤ 120)))
def progB (f : List S112) (b a : Int) (t : ByteArray) : List S112 := f.set b.toNat ⟨(f.getD b.toNat z112).f0, (f.getD b.toNat z112).f1, (f.getD b.toNat z112).f2.set a.toNat ⟨1, t⟩⟩
def programB (f : List S112) (b a : Int) (t : ByteArray) : List S112 × Bool := if progOk f b a t = true then (progB f b a t, true) else (f, false)
def wipeOk (f : List S112) (b : Int) : Bool := useB f b && !decide ((f.getD b.toNat z112).f1 = 1000000000)
def wipedB (f : List S112) (b : Int) : List S112 := f.set b.toNat ⟨false, wrap64 ((f.getD b.toNat z112).f1 + 1), List.replicate 4 z114⟩
def wipeB (f : List S112) (b : Int) : List S112 × Bool := if wipeOk f b = true then (wipedB f b, true) else (f, false)
theorem use_of {f : List S112} {b : Int} (h : useB f b = true) : flashB f = true ∧ 0 ≤ b ∧ b.toNat < f.length ∧ b < (f.length : Int) ∧ (f.getD b.toNat z112).f0 = false := by
  unfold useB at h
  simp only [Bool.and_eq_true, decide_eq_true_eq, Bool.not_eq_true'] at h
  exact ⟨h.1, h.2.1.1, by omega, by omega, h.2.2⟩
theorem four_of {f : List S112} (h : flashB f = true) {i : Nat} (hi : i < f.length) : (f.getD i z112).f2.length = 4 := by
  unfold flashB at h
  simp only [Bool.and_eq_true, List.all_eq_true] at h
  have := h.1 i (by simp; omega)
  unfold blockB at this
  simp only [Bool.and_eq_true, decide_eq_true_eq] at this
  exact this.1
theorem nextB_range (ls : List S114) : 0 ≤ nextB ls := by
  unfold nextB
  rcases findI_range (T := fun i => blankL (ls.getD i z114)) ls.length 0 with h | ⟨j, _, _, h, _⟩
  · simp only [h]; decide
  · simp only [h]
    rw [if_neg (by omega)]
    omega
theorem iProgram_ev (f : List S112) (b a : Int) (t : ByteArray) (hn : f.length ≤ 1048576) (hk : ∀ x ∈ f, x.f2.length ≤ 1048576) : Ev (fun k => impl_Program.f k f b a t) (programB f b a t) := by
  unfold impl_Program.f programB progOk progB
  refine ev_bind (iCopyF_ev f hn hk) (ev_bind (iUse_ev f b hn hk) ?_)
  by_cases hu : useB f b = true
  · obtain ⟨u1, u2, u3, u4, u5⟩ := use_of hu
    have h4 := four_of u1 u3
    simp only [hu, if_true, inF_eq, Option.bind_some, Bool.true_and]
    by_cases ha : 0 ≤ a ∧ a ≤ 3
    · simp only [decide_eq_true ha, if_true, if_pos u2, if_pos u4, Bool.true_and, rdB_toNat]
      refine ev_bind (iNext_ev _ _ _ (by omega)) ?_
      by_cases hx : a = nextB (f.getD b.toNat z112).f2
      · simp only [if_pos hx, decide_eq_true hx, Bool.true_and]
        by_cases ht : 1 ≤ (t.size : Int) ∧ (t.size : Int) ≤ 120
        · have hlt : a < ((f.getD b.toNat z112).f2.length : Int) := by omega
          simp only [decide_eq_true ht, if_true, if_pos ha.1]
          exact ⟨0, fun k _ => if_pos hlt⟩
        · simp only [decide_eq_false ht, Bool.false_eq_true, if_false]
          exact Ev.now _
      · simp only [if_neg hx, decide_eq_false hx, Bool.false_and, Bool.false_eq_true, if_false]
        exact Ev.now _
    · simp only [decide_eq_false ha, Bool.false_and, Bool.false_eq_true, if_false]
      exact Ev.now _
  · simp only [Bool.eq_false_iff.mpr hu, Bool.false_and, Bool.false_eq_true, if_false]
    exact Ev.now _
theorem sProgram_ev (f : List S112) (b a : Int) (t : ByteArray) (hn : f.length ≤ 1048576) (hk : ∀ x ∈ f, x.f2.length ≤ 1048576) : Ev (fun k => spec_Program.f k f b a t) (programB f b a t) := by
  unfold spec_Program.f programB progOk useB progB
  refine ev_bind (sCopyF_ev f hn hk) (ev_bind (sFlashOk_ev f hn hk) ?_)
  by_cases h : flashB f = true
  · simp only [h, if_true, Bool.true_and]
    unfold spec_l05May.f
    simp only [l01InF_eq, Option.bind_some, w64 (x := (f.length : Int) - 1) (by omega) (by omega), Option.bind_assoc]
    by_cases h2 : 0 ≤ b ∧ b ≤ (f.length : Int) - 1
    · have u3 : b.toNat < f.length := by omega
      have h4 := four_of h u3
      simp only [decide_eq_true h2, if_true, if_pos h2.1, if_pos (show b < (f.length : Int) by omega), Bool.true_and, rdB_toNat]
      by_cases hb : (f.getD b.toNat z112).f0 = true
      · simp only [hb, if_true, Option.bind_some, Bool.false_eq_true, if_false, Bool.not_true, Bool.false_and]
        exact Ev.now _
      · simp only [Bool.eq_false_iff.mpr hb, Bool.false_eq_true, if_false, Bool.not_false, Bool.true_and]
        by_cases ha : a < 4
        · simp only [if_pos ha, Option.bind_assoc]
          refine ev_bind (sNext_ev _ _ _ (by omega)) ?_
          by_cases hx : a = nextB (f.getD b.toNat z112).f2
          · have h0 : 0 ≤ a := by rw [hx]; exact nextB_range _
            simp only [if_pos hx, decide_eq_true hx, decide_eq_true (show 0 ≤ a ∧ a ≤ 3 from ⟨h0, by omega⟩), Bool.true_and, Option.bind_some]
            by_cases ht : 1 ≤ (t.size : Int) ∧ (t.size : Int) ≤ 120
            · simp only [decide_eq_true ht, if_true, if_pos h0, if_pos (show a < ((f.getD b.toNat z112).f2.length : Int) by omega)]
              exact Ev.now _
            · simp only [decide_eq_false ht, Bool.false_eq_true, if_false]
              exact Ev.now _
          · simp only [if_neg hx, decide_eq_false hx, Bool.false_and, Bool.and_false, Bool.false_eq_true, if_false, Option.bind_some]
            exact Ev.now _
        · simp only [if_neg ha, decide_eq_false (show ¬ (0 ≤ a ∧ a ≤ 3) by omega), Bool.false_and, Bool.false_eq_true, if_false, Option.bind_some]
          exact Ev.now _
    · simp only [decide_eq_false h2, Bool.false_and, Bool.false_eq_true, if_false, Option.bind_some]
      exact Ev.now _
  · simp only [Bool.eq_false_iff.mpr h, Bool.false_and, Bool.false_eq_true, if_false]
    exact Ev.now _
theorem blank_eq : impl_blankLeaves.f = some (List.replicate 4 z114) := by unfold impl_blankLeaves.f; rw [if_pos (by omega)]
theorem iWipe_ev (f : List S112) (b : Int) (hn : f.length ≤ 1048576) (hk : ∀ x ∈ f, x.f2.length ≤ 1048576) : Ev (fun k => impl_Wipe.f k f b) (wipeB f b) := by
  unfold impl_Wipe.f wipeB wipeOk wipedB
  refine ev_bind (iCopyF_ev f hn hk) (ev_bind (iUse_ev f b hn hk) ?_)
  by_cases hu : useB f b = true
  · obtain ⟨u1, u2, u3, u4, u5⟩ := use_of hu
    have e1 : ∀ v, rd_T112 (f.set b.toNat v) b = v := fun v => getD_set_self u3
    simp only [hu, if_true, Bool.true_and, if_pos u2, if_pos u4, rdB_toNat]
    by_cases hw : (f.getD b.toNat z112).f1 = 1000000000
    · simp only [if_pos hw, decide_eq_true hw, Bool.not_true, Bool.false_eq_true, if_false]
      exact Ev.now _
    · simp only [if_neg hw, decide_eq_false hw, Bool.not_false, if_true, blank_eq, Option.bind_some]
      simp only [← rdB_toNat, e1, List.set_set]
      rw [rdB_toNat, u5]
      exact Ev.now _
  · simp only [Bool.eq_false_iff.mpr hu, Bool.false_and, Bool.false_eq_true, if_false]
    exact Ev.now _
theorem sWipe_ev (f : List S112) (b : Int) (hn : f.length ≤ 1048576) (hk : ∀ x ∈ f, x.f2.length ≤ 1048576) : Ev (fun k => spec_Wipe.f k f b) (wipeB f b) := by
  unfold spec_Wipe.f wipeB wipeOk wipedB useB
  refine ev_bind (sCopyF_ev f hn hk) (ev_bind (sFlashOk_ev f hn hk) ?_)
  by_cases h : flashB f = true
  · simp only [h, if_true, Bool.true_and, l01InF_eq, Option.bind_some, w64 (x := (f.length : Int) - 1) (by omega) (by omega)]
    by_cases h2 : 0 ≤ b ∧ b ≤ (f.length : Int) - 1
    · simp only [decide_eq_true h2, if_true, if_pos h2.1, if_pos (show b < (f.length : Int) by omega), Bool.true_and, rdB_toNat, if_pos (show 4 ≤ 11728124029610 by omega)]
      by_cases hb : (f.getD b.toNat z112).f0 = true
      · simp only [hb, if_true, Bool.not_true, Bool.false_and, Bool.false_eq_true, if_false]
        exact Ev.now _
      · simp only [Bool.eq_false_iff.mpr hb, Bool.false_eq_true, if_false, Bool.not_false, Bool.true_and]
        by_cases hw : (f.getD b.toNat z112).f1 = 1000000000
        · simp only [if_pos hw, decide_eq_true hw, Bool.not_true, Bool.false_eq_true, if_false]
          exact Ev.now _
        · simp only [if_neg hw, decide_eq_false hw, Bool.not_false, if_true]
          exact Ev.now _
    · simp only [decide_eq_false h2, Bool.false_and, Bool.false_eq_true, if_false]
      exact Ev.now _
  · simp only [Bool.eq_false_iff.mpr h, Bool.false_and, Bool.false_eq_true, if_false]
    exact Ev.now _
/-- A step. -/
def doB (f : List S112) (kd b a : Int) (t : ByteArray) : List S112 × Bool := if kd = 1 then programB f b a t else if kd = 2 then wipeB f b else (f, false)
theorem iDo_ev (f : List S112) (kd b a : Int) (t : ByteArray) (hn : f.length ≤ 1048576) (hk : ∀ x ∈ f, x.f2.length ≤ 1048576) : Ev (fun k => impl_DoStep.f k f kd b a t) (doB f kd b a t) := by
  unfold impl_DoStep.f doB
  by_cases h1 : kd = 1
  · simp only [if_pos h1]
    exact ev_bind (iProgram_ev f b a t hn hk) (Ev.now _)
  · simp only [if_neg h1]
    by_cases h2 : kd = 2
    · simp only [if_pos h2]
      exact ev_bind (iWipe_ev f b hn hk) (Ev.now _)
    · simp only [if_neg h2]
      exact ev_bind (iCopyF_ev f hn hk) (Ev.now _)
theorem sDo_ev (f : List S112) (kd b a : Int) (t : ByteArray) (hn : f.length ≤ 1048576) (hk : ∀ x ∈ f, x.f2.length ≤ 1048576) : Ev (fun k => spec_DoStep.f k f kd b a t) (doB f kd b a t) := by
  unfold spec_DoStep.f doB
  by_cases h1 : kd = 1
  · simp only [if_pos h1]
    exact ev_bind (sProgram_ev f b a t hn hk) (Ev.now _)
  · simp only [if_neg h1]
    by_cases h2 : kd = 2
    · simp only [if_pos h2]
      exact ev_bind (sWipe_ev f b hn hk) (Ev.now _)
    · simp only [if_neg h2]
      exact ev_bind (sCopyF_ev f hn hk) (Ev.now _)
theorem doB_le {f : List S112} (kd b a : Int) (t : ByteArray) (hn : f.length ≤ 1048576) (hk : ∀ x ∈ f, x.f2.length ≤ 1048576) : (doB f kd b a t).1.length ≤ 1048576 ∧ ∀ x ∈ (doB f kd b a t).1, x.f2.length ≤ 1048576 := by
  have hset : ∀ (i : Nat) (x : S112), x.f2.length ≤ 1048576 → (f.set i x).length ≤ 1048576 ∧ ∀ y ∈ f.set i x, y.f2.length ≤ 1048576 := fun i x hx => ⟨by rw [List.length_set]; exact hn, fun y hy => by
    rcases List.mem_or_eq_of_mem_set hy with h | h
    · exact hk y h
    · rw [h]; exact hx⟩
  have hz : ∀ i, (f.getD i z112).f2.length ≤ 1048576 := fun i => by
    by_cases hi : i < f.length
    · exact hk _ (getD_mem' hi)
    · rw [List.getD_eq_getElem?_getD, List.getElem?_eq_none (by omega)]; exact Nat.zero_le _
  unfold doB programB wipeB progB wipedB
  split
  · split
    · exact hset _ _ (by rw [List.length_set]; exact hz _)
    · exact ⟨hn, hk⟩
  · split
    · split
      · exact hset _ _ (by simp)
      · exact ⟨hn, hk⟩
    · exact ⟨hn, hk⟩
theorem rdS_nat (l : List S69) (i : Nat) : rd_T69 l (i : Int) = l.getD i z69 := rfl
/-- Steps, as long as they are done. -/
def runB (L : List S69) : Nat → Nat → List S112 → List S112 × Int
  | 0, _, f => (f, (L.length : Int))
  | d + 1, i, f => if (doB f (L.getD i z69).f0 (L.getD i z69).f1 (L.getD i z69).f2 (L.getD i z69).f3).2 = true then runB L d (i + 1) (doB f (L.getD i z69).f0 (L.getD i z69).f1 (L.getD i z69).f2 (L.getD i z69).f3).1 else (f, (i : Int))
theorem runB_le (L : List S69) : ∀ (d i : Nat) (f : List S112), f.length ≤ 1048576 → (∀ x ∈ f, x.f2.length ≤ 1048576) → (runB L d i f).1.length ≤ 1048576 ∧ ∀ x ∈ (runB L d i f).1, x.f2.length ≤ 1048576
  | 0, _, f, h, hk => ⟨h, hk⟩
  | d + 1, i, f, h, hk => by
    unfold runB
    split
    · have hb := doB_le (L.getD i z69).f0 (L.getD i z69).f1 (L.getD i z69).f2 (L.getD i z69).f3 h hk
      exact runB_le L d (i + 1) _ hb.1 hb.2
    · exact ⟨h, hk⟩
theorem iSteps_ev (f : List S112) (L : List S69) (hn : f.length ≤ 1048576) (hk : ∀ x ∈ f, x.f2.length ≤ 1048576) (hL : L.length ≤ 1048576) : Ev (fun k => impl_DoSteps.f k f L) (runB L L.length 0 f) := by
  have main : ∀ (d i : Nat) (f : List S112), i + d = L.length → f.length ≤ 1048576 → (∀ x ∈ f, x.f2.length ≤ 1048576) → Ev (fun k => impl_DoSteps.l0 k L L (L.length : Int) (i : Int) f) (runB L d i f) := by
    intro d
    induction d with
    | zero => intro i f hi _ _; exact ev_some fun k => by simp only [impl_DoSteps.l0]; rw [if_neg (by omega)]; rfl
    | succ d ih =>
      intro i f hi h hk
      unfold runB
      refine Ev.step (f := fun k => (impl_DoStep.f k f (L.getD i z69).f0 (L.getD i z69).f1 (L.getD i z69).f2 (L.getD i z69).f3).bind fun bt => if bt.2 = true then impl_DoSteps.l0 k L L (L.length : Int) ((i + 1 : Nat) : Int) bt.1 else some (f, (i : Int))) (fun k => ?_) (ev_bind (iDo_ev f _ _ _ _ h hk) ?_)
      · simp only [impl_DoSteps.l0]
        rw [if_pos (by omega), if_pos (by omega), if_pos (by omega), rdS_nat, wsucc (n := L.length) (by omega) (by omega)]
      · have hb := doB_le (L.getD i z69).f0 (L.getD i z69).f1 (L.getD i z69).f2 (L.getD i z69).f3 h hk
        by_cases hd : (doB f (L.getD i z69).f0 (L.getD i z69).f1 (L.getD i z69).f2 (L.getD i z69).f3).2 = true
        · simp only [if_pos hd]
          exact ih (i + 1) _ (by omega) hb.1 hb.2
        · simp only [if_neg hd]
          exact Ev.now _
  unfold impl_DoSteps.f
  exact ev_bind (iCopyF_ev f hn hk) (main L.length 0 f (by omega) hn hk)
theorem sSteps_ev (f : List S112) (L : List S69) (hn : f.length ≤ 1048576) (hk : ∀ x ∈ f, x.f2.length ≤ 1048576) (hL : L.length ≤ 1048576) : Ev (fun k => spec_DoSteps.f k f L) (runB L L.length 0 f) := by
  have main : ∀ (d i : Nat) (f : List S112), i + d = L.length → f.length ≤ 1048576 → (∀ x ∈ f, x.f2.length ≤ 1048576) → Ev (fun k => spec_DoSteps.l0 k L (i : Int) f) (runB L d i f) := by
    intro d
    induction d with
    | zero => intro i f hi _ _; exact ev_some fun k => by simp only [spec_DoSteps.l0]; rw [if_neg (by omega)]; rfl
    | succ d ih =>
      intro i f hi h hk
      unfold runB
      refine Ev.step (f := fun k => (spec_DoStep.f k f (L.getD i z69).f0 (L.getD i z69).f1 (L.getD i z69).f2 (L.getD i z69).f3).bind fun bt => if bt.2 = true then spec_DoSteps.l0 k L ((i + 1 : Nat) : Int) bt.1 else some (f, (i : Int))) (fun k => ?_) (ev_bind (sDo_ev f _ _ _ _ h hk) ?_)
      · simp only [spec_DoSteps.l0]
        rw [if_pos (by omega), if_pos (by omega), rdS_nat, wsucc (n := L.length) (by omega) (by omega)]
      · have hb := doB_le (L.getD i z69).f0 (L.getD i z69).f1 (L.getD i z69).f2 (L.getD i z69).f3 h hk
        by_cases hd : (doB f (L.getD i z69).f0 (L.getD i z69).f1 (L.getD i z69).f2 (L.getD i z69).f3).2 = true
        · simp only [if_pos hd]
          exact ih (i + 1) _ (by omega) hb.1 hb.2
        · simp only [if_neg hd]
          exact Ev.now _
  unfold spec_DoSteps.f
  exact ev_bind (sCopyF_ev f hn hk) (main L.length 0 f (by omega) hn hk)
end Go.Proofs.Ytijbejiajaiciaa.Pu

/- A mark's text. -/
namespace Go.Proofs.Ytijbejiajaiciaa.Pu
set_option linter.unusedVariables false
set_option linter.unusedSimpArgs false
open Go.RowKit Go.Proofs.Ytijbejiajaiciaa.PC Go.Proofs.YtijbejiajaiciaaW.PrintWords

theorem strOne (n : Int) : (strOfNums [n]).size = 1 := by simp [strOfNums, ByteArray.size]
/-- A mark's text is there. -/
theorem markText_ev (n : Int) (h1 : n ≤ 4611686018427387904) : ∃ t, Ev (fun k => laws_markText.f k n) t := by
  by_cases h : n ≤ 0
  · exact ⟨⟨#[109, 48]⟩, by unfold laws_markText.f; simp only [if_pos h]; exact Ev.now _⟩
  · have main : ∀ (d : Nat) (x : Int) (s : ByteArray), 0 ≤ x → x ≤ d → x ≤ 4611686018427387904 → s.size + d ≤ 4611686018427387905 → ∃ t, Ev (fun k => laws_markText.l0 k x s) t := by
      intro d
      induction d using Nat.strongRecOn with
      | _ d ih =>
        intro x s hx hd hx2 hs
        by_cases hz : x > 0
        · have hq : Int.tdiv x 10 = x / 10 := Int.tdiv_eq_ediv_of_nonneg hx
          obtain ⟨t, ht⟩ := ih (d - 1) (by omega) (x / 10) ((strOfNums [(wrap64 (48 + (Int.tmod x 10))) % 256]) ++ s) (by omega) (by omega) (by omega) (by rw [ByteArray.size_append, strOne]; omega)
          refine ⟨t, Ev.step (fun k => ?_) ht⟩
          simp only [laws_markText.l0]
          rw [if_pos hz]
          simp only [Option.bind_some]
          rw [if_pos (by rw [strOne]; omega), hq, w64 (by omega) (by omega)]
        · exact ⟨_, ev_some fun k => by
            simp only [laws_markText.l0]
            rw [if_neg hz, if_pos (by omega)]⟩
    obtain ⟨t, ht⟩ := main n.toNat n ⟨#[]⟩ (by omega) (by omega) h1 (by show 0 + _ ≤ _; omega)
    exact ⟨t, by unfold laws_markText.f; simp only [if_neg h]; exact ht⟩
end Go.Proofs.Ytijbejiajaiciaa.Pu

/- Marks of a flash. -/
namespace Go.Proofs.Ytijbejiajaiciaa.Pu
set_option linter.unusedVariables false
set_option linter.unusedSimpArgs false
open Go.RowKit Go.Proofs.Ytijbejiajaiciaa.PC Go.Proofs.YtijbejiajaiciaaW.PrintWords

theorem mark_leafs (l : List S114) (a : Int) (hn : l.length ≤ 1048576) (ha : 0 ≤ a) (hM : a + l.length * 2 ≤ 4611686018427387904) :
    ∃ a' l', l'.length = l.length ∧ Ev (fun k => laws_markLeafS.f k l a) (a', l') ∧ Ev (fun k => laws_heldLeafS.f k l' a) a' ∧ a ≤ a' ∧ a' ≤ a + l.length * 2 := by
  obtain ⟨a', l', h1, _, h2, h3, h4, h5⟩ := ev_mark z114 (L := fun k xs a i => laws_markLeafS.l0 k xs a i) (Hd := fun k xs a i => laws_heldLeafS.l0 k xs a i)
    (fun k x a => (laws_markText.f k (wrap64 (a + 1))).bind fun t => some (wrap64 (wrap64 (a + 1) + 1), (⟨a, t⟩ : S114))) (fun k x a => if x.f0 = a then (laws_markText.f k (wrap64 (a + 1))).bind fun t => if x.f1.toList = t.toList then some (wrap64 (wrap64 (a + 1) + 1)) else some (-1) else some (-1)) 2 (fun x => True)
    (fun k xs a i hi _ _ => by
      have e1 : rd_T114 (xs.set i (⟨a, (rd_T114 xs (i : Int)).f1⟩ : S114)) (i : Int) = ⟨a, (rd_T114 xs (i : Int)).f1⟩ := getD_set_self hi
      simp only [laws_markLeafS.l0]
      rw [if_pos (by omega), if_pos (by omega)]
      simp only [Option.bind_some, Int.toNat_natCast, e1, List.set_set, Option.bind_assoc])
    (fun k xs a i hi => by
      simp only [laws_markLeafS.l0]
      rw [if_neg (by omega)])
    (fun k xs a i hi h0 h1 => by
      simp only [laws_heldLeafS.l0]
      rw [if_pos (by omega), if_pos (by omega)]
      show (if (xs.getD i z114).f0 = a then (laws_markText.f k (wrap64 (a + 1))).bind (fun t => if (xs.getD i z114).f1.toList = t.toList then _ else _) else _) = _
      have e2 : wrap64 (wrap64 (a + 1) + 1) = a + 2 := by rw [w64 (x := a + 1) (by omega) (by omega), w64 (by omega) (by omega)]; omega
      by_cases h : (xs.getD i z114).f0 = a
      · simp only [if_pos h, Option.bind_assoc]
        congr 1
        funext t
        by_cases h2 : (xs.getD i z114).f1.toList = t.toList
        · simp only [if_pos h2, e2, Option.bind_some]
          rw [if_neg (by omega)]
        · simp only [if_neg h2, Option.bind_some]
          rw [if_pos (by omega)]
      · simp only [if_neg h, Option.bind_some]
        rw [if_pos (by omega)])
    (fun k xs a i hi => by
      simp only [laws_heldLeafS.l0]
      rw [if_neg (by omega)])
    (by omega)
    (fun x a _ h0 h1 => by
      obtain ⟨t, ht⟩ := markText_ev (a + 1) (by omega)
      have e1 : wrap64 (a + 1) = a + 1 := w64 (by omega) (by omega)
      have e2 : wrap64 (a + 1 + 1) = a + 2 := by rw [w64 (by omega) (by omega)]; omega
      refine ⟨a + 2, ⟨a, t⟩, ?_, ?_, by omega, by omega⟩
      · simp only [e1, e2]
        exact ev_bind ht (Ev.now _)
      · simp only [e1, e2, if_true]
        exact ev_bind ht (by simp only [if_true]; exact Ev.now _))
    l.length 0 l a (by omega) (by omega) (fun _ _ _ => trivial) ha (by omega)
  exact ⟨a', l', h1, h2, h3, h4, h5⟩
theorem mark_blocks (l : List S112) (a : Int) (hn : l.length ≤ 1048576) (hk : ∀ x ∈ l, x.f2.length ≤ 1048576) (ha : 0 ≤ a) (hM : a ≤ 1099511627776) :
    ∃ a' l', l'.length = l.length ∧ Ev (fun k => laws_markBlockS.f k l a) (a', l') ∧ Ev (fun k => laws_heldBlockS.f k l' a) a' ∧ a ≤ a' ∧ a' ≤ a + l.length * 2097154 := by
  obtain ⟨a', l', h1, _, h2, h3, h4, h5⟩ := ev_mark z112 (L := fun k xs a i => laws_markBlockS.l0 k xs a i) (Hd := fun k xs a i => laws_heldBlockS.l0 k xs a i)
    (fun k x a => (laws_markLeafS.f k x.f2 (wrap64 (wrap64 (a + 1) + 1))).bind fun b => some (b.1, (⟨Int.tmod a 3 == 0, wrap64 (a + 1), b.2⟩ : S112))) (fun k x a => if (x.f0 != (Int.tmod a 3 == 0)) = true then some (-1) else if x.f1 = wrap64 (a + 1) then laws_heldLeafS.f k x.f2 (wrap64 (wrap64 (a + 1) + 1)) else some (-1)) 2097154 (fun x => x.f2.length ≤ 1048576)
    (fun k xs a i hi _ _ => by
      have e1 : rd_T112 (xs.set i (⟨Int.tmod a 3 == 0, (rd_T112 xs (i : Int)).f1, (rd_T112 xs (i : Int)).f2⟩ : S112)) (i : Int) = ⟨Int.tmod a 3 == 0, (rd_T112 xs (i : Int)).f1, (rd_T112 xs (i : Int)).f2⟩ := getD_set_self hi
      have e2 : rd_T112 (xs.set i (⟨Int.tmod a 3 == 0, wrap64 (a + 1), (rd_T112 xs (i : Int)).f2⟩ : S112)) (i : Int) = ⟨Int.tmod a 3 == 0, wrap64 (a + 1), (rd_T112 xs (i : Int)).f2⟩ := getD_set_self hi
      simp only [laws_markBlockS.l0]
      rw [if_pos (by omega), if_pos (by omega)]
      simp only [Option.bind_some, Int.toNat_natCast, e1, e2, List.set_set, Option.bind_assoc]
      rfl)
    (fun k xs a i hi => by
      simp only [laws_markBlockS.l0]
      rw [if_neg (by omega)])
    (fun k xs a i hi h0 h1 => by
      simp only [laws_heldBlockS.l0]
      rw [if_pos (by omega), if_pos (by omega)]
      show (if ((xs.getD i z112).f0 != (Int.tmod a 3 == 0)) = true then some (-1) else if (xs.getD i z112).f1 = wrap64 (a + 1) then (laws_heldLeafS.f k (xs.getD i z112).f2 (wrap64 (wrap64 (a + 1) + 1))).bind _ else _) = _
      by_cases h : ((xs.getD i z112).f0 != (Int.tmod a 3 == 0)) = true
      · simp only [if_pos h]; rfl
      · simp only [if_neg h]
        by_cases h2 : (xs.getD i z112).f1 = wrap64 (a + 1)
        · simp only [if_pos h2]
        · simp only [if_neg h2]; rfl)
    (fun k xs a i hi => by
      simp only [laws_heldBlockS.l0]
      rw [if_neg (by omega)])
    (by omega)
    (fun x a hx h0 h1 => by
      obtain ⟨a1, l1, g1, g2, g3, g4, g5⟩ := mark_leafs x.f2 (a + 2) (by omega) (by omega) (by omega)
      have e1 : wrap64 (a + 1) = a + 1 := w64 (by omega) (by omega)
      have e2 : wrap64 (a + 1 + 1) = a + 2 := by rw [w64 (by omega) (by omega)]; omega
      refine ⟨a1, ⟨Int.tmod a 3 == 0, a + 1, l1⟩, ?_, ?_, by omega, by omega⟩
      · simp only [e1, e2]
        exact ev_bind g2 (Ev.now _)
      · simp only [e1, e2, bne_self_eq_false, if_true]
        exact g3)
    l.length 0 l a (by omega) (by omega) (fun j _ hj => hk _ (by rw [List.getD_eq_getElem?_getD, List.getElem?_eq_getElem hj]; exact List.getElem_mem hj)) ha (by omega)
  exact ⟨a', l', h1, h2, h3, h4, h5⟩
theorem mark_flash (l : List S112) (a : Int) (hn : l.length ≤ 1048576) (hk : ∀ x ∈ l, x.f2.length ≤ 1048576) (ha : 0 ≤ a) (hM : a ≤ 1099511627776) :
    ∃ a' l', l'.length = l.length ∧ Ev (fun k => laws_markFlash.f k l a) (a', l') ∧ Ev (fun k => laws_heldFlash.f k l' a) a' ∧ a ≤ a' ∧ a' ≤ a + l.length * 2097154 := by
  obtain ⟨a', l', h1, h2, h3, h4, h5⟩ := mark_blocks l a hn hk ha hM
  refine ⟨a', l', h1, ?_, ?_, h4, h5⟩
  · unfold laws_markFlash.f; exact ev_bind h2 (Ev.now _)
  · unfold laws_heldFlash.f; exact ev_bind h3 (by simp only [if_neg (show ¬ a' < 0 by omega)]; exact Ev.now _)
end Go.Proofs.Ytijbejiajaiciaa.Pu

/- FnExactDoStep: the program and the reference do a step alike, and the program's result is its own. -/
namespace Go.Proofs.Ytijbejiajaiciaa.Pure
set_option linter.unusedVariables false
set_option linter.unusedSimpArgs false
open Go.RowKit Go.Proofs.Ytijbejiajaiciaa.PC Go.Proofs.YtijbejiajaiciaaW.PrintWords Go.Proofs.Ytijbejiajaiciaa.Pu

theorem FnExactDoStep : ∀ (l0_0 : List S144) (a1_0 : Int) (a1_1 : Int) (a1_2 : Int) (a1_3 : ByteArray), (l0_0.length ≤ maxLen ∧ ∀ x_l0_0 ∈ l0_0, (True ∧ (Lit.int .i64 x_l0_0.f1).wf = true ∧ (x_l0_0.f2.length ≤ maxLen ∧ ∀ x_x_l0_0f2 ∈ x_l0_0.f2, ((Lit.int .i64 x_x_l0_0f2.f0).wf = true ∧ x_x_l0_0f2.f1.size ≤ maxLen)))) → (Lit.int .i64 a1_0).wf = true → (Lit.int .i64 a1_1).wf = true → (Lit.int .i64 a1_2).wf = true → a1_3.size ≤ maxLen → ∃ k, laws_FnExactDoStep.f k l0_0 a1_0 a1_1 a1_2 a1_3 = some true := by
  intro l kd b a t ⟨hl, hx⟩ _ _ _ ht
  refine Ev.rounds (g := fun k => laws_FnExactDoStep.f k l kd b a t) ?_
  obtain ⟨r, hr, hq⟩ := flash_start hl (fun x h => ⟨(hx x h).2.2.1, fun y hy => ((hx x h).2.2.2 y hy).2⟩)
  unfold maxLen at hl hx ht
  obtain ⟨r', hr', hra, _⟩ := szFlash_ev l 1048576 (by omega) (by omega) (by omega) (fun x h => ⟨by have := (hx x h).2.2.1; omega, fun y hy => by have := ((hx x h).2.2.2 y hy).2; omega⟩)
  obtain rfl := ev_uniq hr hr'
  have hto2 : laws_toStep.f kd b a t = some (kd, b, a, t) := rfl
  unfold laws_FnExactDoStep.f
  refine ev_bind hr ?_
  by_cases h : r < 0
  · simp only [if_pos h]; exact Ev.now _
  simp only [if_neg h]
  unfold laws_szStep.f
  simp only [w64 (x := r - (t.size : Int)) (by omega) (by omega)]
  by_cases h2 : r - (t.size : Int) < 0
  · simp only [if_pos h2, Option.bind_some]
    simp only [if_pos (show (-1 : Int) < 0 by omega)]
    exact Ev.now _
  simp only [if_neg h2, Option.bind_some, hto2]
  obtain ⟨hto, heq, hn, hm⟩ := hq (by omega)
  have hk : ∀ x ∈ toFl l, x.f2.length ≤ 1048576 := fun x hx => (hm x hx).1
  have hsp := sDo_ev (toFl l) kd b a t hn hk
  have him := iDo_ev (toFl l) kd b a t hn hk
  obtain ⟨b1, b2⟩ := doB_le kd b a t hn hk
  revert hsp him b1 b2
  generalize doB (toFl l) kd b a t = P
  intro hsp him b1 b2
  have eqp := eqFlash_ev P.1 b1 b2
  obtain ⟨ka, A', _, hmk, _, hk0, hka⟩ := mark_flash (toFl l) 1 hn hk (by omega) (by omega)
  obtain ⟨m, g', _, hm1, hm2, hm0, _⟩ := mark_flash P.1 1 b1 b2 (by omega) (by omega)
  refine ev_bind hto (ev_bind hsp (ev_bind hto (ev_bind him (ev_bind eqp ?_))))
  simp only [if_true]
  refine ev_bind hto (ev_bind heq ?_)
  simp only [if_true]
  refine ev_bind hmk (ev_bind eqp ?_)
  simp only [if_true, if_neg (show ¬ ka < 0 by omega)]
  refine ev_bind hm1 (ev_bind hm2 ?_)
  simp only [if_true, if_neg (show ¬ m < 0 by omega)]
  refine ev_bind hto (ev_bind him (ev_bind eqp ?_))
  simp only [if_true]
  refine ev_bind hm2 ?_
  simp only [if_true, if_neg (show ¬ m < 0 by omega)]
  exact Ev.now _
end Go.Proofs.Ytijbejiajaiciaa.Pure

/- FnExactDoStep: whatever the input, the law returns true, and its arguments read as they did. The row, out of the law's own walk and the pure statement. -/
namespace Go.Proofs.Ytijbejiajaiciaa.fnExactDoStep
open Go.ChangeShapes Go.WideShapes Go.ChangeAt Go.RowKit Go.Proofs.Ytijbejiajaiciaa.Open Go.Proofs.YtijbejiajaiciaaW.PrintWords Go.Proofs.Ytijbejiajaiciaa.PC
open Go.ChangeMaps (open_string shut_string)
theorem own : ownKnob Try.prog.godebug = none := by kernel_rfl
theorem laidOut : laidOutB Try.prog = true := by kernel_rfl
set_option maxRecDepth 100000 in
theorem o163 : Opn Try.prog 163 k163 (fun x => ((Lit.int .i64 x.f0).wf = true ∧ x.f1.size ≤ maxLen)) := opn_struct (d := (Kd.pair (Kd.int .i64) Kd.string)) (wf := fun (y : Int × ByteArray) => ((Lit.int .i64 y.1).wf = true ∧ y.2.size ≤ maxLen)) (fun x : S163 => (x.f0, x.f1)) (fun y => (⟨y.1, y.2⟩ : S163)) (fun _ => rfl) Try.underlying163 (by kernel_rfl) (opnF_cons rfl (by kernel_rfl) (opn_int Try.underlying3) (opnF_one rfl (by kernel_rfl) (opn_string Try.underlying9)))
set_option maxRecDepth 100000 in
theorem o144 : Opn Try.prog 144 k144 (fun x => (True ∧ (Lit.int .i64 x.f1).wf = true ∧ (x.f2.length ≤ maxLen ∧ ∀ x_xf2 ∈ x.f2, ((Lit.int .i64 x_xf2.f0).wf = true ∧ x_xf2.f1.size ≤ maxLen)))) := opn_struct (d := (Kd.pair Kd.bool (Kd.pair (Kd.int .i64) (Kd.slice 163 k163)))) (wf := fun (y : Bool × Int × (List S163)) => (True ∧ ((Lit.int .i64 y.2.1).wf = true ∧ (y.2.2.length ≤ maxLen ∧ ∀ x_y22 ∈ y.2.2, ((Lit.int .i64 x_y22.f0).wf = true ∧ x_y22.f1.size ≤ maxLen))))) (fun x : S144 => (x.f0, x.f1, x.f2)) (fun y => (⟨y.1, y.2.1, y.2.2⟩ : S144)) (fun _ => rfl) Try.underlying144 (by kernel_rfl) (opnF_cons rfl (by kernel_rfl) (opn_bool Try.underlying4) (opnF_cons rfl (by kernel_rfl) (opn_int Try.underlying3) (opnF_one rfl (by kernel_rfl) (opn_slice Try.underlying142 (by kernel_rfl) o163))))
set_option maxRecDepth 100000 in
theorem p54 : Opn Try.prog 54 (Kd.slice 144 k144) (fun (y : (List S144)) => (y.length ≤ maxLen ∧ ∀ x_y ∈ y, (True ∧ (Lit.int .i64 x_y.f1).wf = true ∧ (x_y.f2.length ≤ maxLen ∧ ∀ x_x_yf2 ∈ x_y.f2, ((Lit.int .i64 x_x_yf2.f0).wf = true ∧ x_x_yf2.f1.size ≤ maxLen))))) := opn_tuple Try.underlying54 (by kernel_rfl) (opnF_one rfl (by kernel_rfl) (opn_slice Try.underlying52 (by kernel_rfl) o144))
set_option maxRecDepth 100000 in
theorem p65 : Opn Try.prog 65 (Kd.pair (Kd.int .i64) (Kd.pair (Kd.int .i64) (Kd.pair (Kd.int .i64) Kd.string))) (fun (y : (Int × Int × Int × ByteArray)) => ((Lit.int .i64 y.1).wf = true ∧ ((Lit.int .i64 y.2.1).wf = true ∧ ((Lit.int .i64 y.2.2.1).wf = true ∧ y.2.2.2.size ≤ maxLen)))) := opn_tuple Try.underlying65 (by kernel_rfl) (opnF_cons rfl (by kernel_rfl) (opn_int Try.underlying3) (opnF_cons rfl (by kernel_rfl) (opn_int Try.underlying3) (opnF_cons rfl (by kernel_rfl) (opn_int Try.underlying3) (opnF_one rfl (by kernel_rfl) (opn_string Try.underlying9)))))
set_option maxRecDepth 100000 in
set_option maxHeartbeats 4000000 in
theorem lifted (os : Os) (started : os.Started) (H : Type) (enc : TypeId × Value → H) :
    ReturnsInHanded {} Try.checked os 7 .any (Rows.fnExactDoStepSpec.pre6 enc Try.prog Try.f7 Rows.fnExactDoStepRow.domain false) (Rows.fnExactDoStepSpec.post enc Try.prog Try.f7 false true false false) := by
  refine returnsInHanded_of_change_sized (C := Try.checked) own started (by kernel_rfl) Try.func7
    (ChangeSpec.witness6 (enc := enc) (C := Try.checked) false ⟨#[], #[.agg #[.slice none 0 0], .agg #[.int .i64 0, .int .i64 0, .int .i64 0, .string ByteArray.empty]], []⟩ 8 (by kernel_rfl) (by kernel_rfl) (by kernel_rfl) (by kernel_rfl)) ?_
  intro W base args ds gs before hval0 hW hcnd hsz0 _
  have hval : ∀ (j : Nat) t v, Try.f7.params[j]? = some t → args[j]? = some v → Value.okWide Try.prog W .any base t v := hval0
  have hW' := hW
  obtain ⟨p, q, hA0, hV, rfl, hfz, hnd⟩ := hW
  have hA : DataW.TrodAll enc Try.prog W 0 (fun _ => true) true Try.f7.params.toList args.toList ds p := hA0
  rw [Try.params7] at hA hval
  obtain ⟨v0, vs0, d0, ds0, p0, q0, hargs, rfl, rfl, h0, r0⟩ := trodAll_cons hA
  obtain ⟨v1, vs1, d1, ds1, p1, q1, rfl, rfl, rfl, h1, r1⟩ := trodAll_cons r0
  obtain ⟨rfl, rfl, rfl⟩ := trodAll_nil r1
  obtain rfl : args = #[v0, v1] := by cases args; simp_all
  obtain ⟨rfl, rfl⟩ := trodVars_none hV
  have k0 := h0
  have lt0 : ∀ x ∈ p0, x.block < W.heap.size := by obtain ⟨m, hm⟩ := k0; exact DataW.trod_lt m _ _ _ hm
  obtain ⟨fu0, hf0⟩ := h0
  obtain ⟨y0, K0, Y0⟩ := p54 H enc W 0 (fun _ => true) true fu0 _ _ hf0
  obtain ⟨cs0, rfl, sz0⟩ := okWide_struct Try.underlying54 (hval 0 54 v0 rfl rfl)
  obtain ⟨Ac0, Cc0, Ec0, Lc0, Gc0⟩ := K0
  have E0 : cs0 = #[.slice Ac0 y0.length Cc0] := by
    apply Array.toList_inj.1
    have z : cs0.toList = _ := Ec0
    exact z
  subst E0
  have k1 := h1
  have lt1 : ∀ x ∈ p1, x.block < W.heap.size := by obtain ⟨m, hm⟩ := k1; exact DataW.trod_lt m _ _ _ hm
  obtain ⟨fu1, hf1⟩ := h1
  obtain ⟨y1, K1, Y1⟩ := p65 H enc W 0 (fun _ => true) true fu1 _ _ hf1
  obtain ⟨cs1, rfl, sz1⟩ := okWide_struct Try.underlying65 (hval 1 65 v1 rfl rfl)
  obtain ⟨c1_0, c1_r0, ec1_r0, hc1_0, hc1_r0⟩ := K1
  have Ec1_0 := hc1_0
  obtain ⟨c1_r0_1, c1_r0_r1, ec1_r0_r1, hc1_r0_1, hc1_r0_r1⟩ := hc1_r0
  have Ec1_r0_1 := hc1_r0_1
  obtain ⟨c1_r0_r1_2, c1_r0_r1_r2, ec1_r0_r1_r2, hc1_r0_r1_2, hc1_r0_r1_r2⟩ := hc1_r0_r1
  have Ec1_r0_r1_2 := hc1_r0_r1_2
  have Ec1_r0_r1_r2 := hc1_r0_r1_r2
  have E1 : cs1 = #[.int .i64 y1.1, .int .i64 y1.2.1, .int .i64 y1.2.2.1, .string y1.2.2.2] := by
    apply Array.toList_inj.1
    have z : cs1.toList = _ := ec1_r0
    rw [z]
    rw [ec1_r0_r1, ec1_r0_r1_r2, Ec1_0, Ec1_r0_1, Ec1_r0_r1_2, Ec1_r0_r1_r2]
    rfl
  subst E1
  obtain ⟨k, hp⟩ := Pure.FnExactDoStep y0 y1.1 y1.2.1 y1.2.2.1 y1.2.2.2 Y0 Y1.1 Y1.2.1 Y1.2.2.1 Y1.2.2.2
  clear hA0 hval0 hsz0
  refine (laws_FnExactDoStep.calls k Ac0 Cc0 y0 y1.1 y1.2.1 y1.2.2.1 y1.2.2.2 true ⟨rfl⟩ W Gc0 Lc0 hp).mono fun e W' ⟨he, bel0⟩ => ?_
  have bel : Below W.heap.size W W' := bel0
  subst he
  exact ⟨_, rfl, _, _, _, [], _, [], hW', trodAll_mk1 (shut_bool Try.underlying4 _), (trodAll_cons_mk (Below.trod laidOut (by kernel_rfl) (of_decide_eq_true (by kernel_rfl)) k0 bel lt0) (trodAll_cons_mk (Below.trod laidOut (by kernel_rfl) (of_decide_eq_true (by kernel_rfl)) k1 bel lt1) trodAll_mk0)), rfl, bel.frame _, fun h => by cases h⟩
theorem over : Rows.fnExactDoStepRow.holds Try.pinned (OpenSpec.ofChange Rows.fnExactDoStepSpec) :=
  OpenClaim.holds_of_wide 7 Try.f7 rfl rfl rfl rfl rfl rfl rfl ⟨rfl, rfl, rfl, rfl, rfl⟩ rfl rfl rfl rfl rfl (by kernel_rfl) Try.func7 (by kernel_rfl)
    (of_decide_eq_true (by kernel_rfl)) (by unfold Func.isWrapper; first | (rw [if_pos (by decide +kernel)]; kernel_rfl) | (rw [if_neg (by decide +kernel)]; exact ⟨rfl, rfl⟩))
    (fun os started H enc _ => lifted os started H enc)
theorem proved : Rows.FnExactDoStepSaid := over
#print axioms proved
end Go.Proofs.Ytijbejiajaiciaa.fnExactDoStep
namespace Go.Proofs.Ytijbejiajaiciaa
/-- The row, under a short name, for the claim. -/
theorem fnExactDoStep_holds : Rows.FnExactDoStepSaid := fnExactDoStep.proved
end Go.Proofs.Ytijbejiajaiciaa
