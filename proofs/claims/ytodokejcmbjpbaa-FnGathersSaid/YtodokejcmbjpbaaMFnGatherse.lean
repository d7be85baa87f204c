/- FnGathers: functions of the translation as Lean functions with what their calls come to, plain lemmas on them, and, at the end, the row. Parts of one proof, merged by a program of this session; each part's own sentence stands at its head. -/
import Derived.Test.YtodokejcmbjpbaaRows
import Derived.WalkKit
import Derived.ProofKit
import Derived.OpenShut
import Derived.ShutString
import Derived.ChangeOld
import Derived.Below
import Derived.SizedLaws
import Derived.Test.YtodokejcmbjpbaaMFnGathersd
set_option linter.unusedSimpArgs false
set_option linter.unusedVariables false
/- The pages of a transaction: gathered they are the transaction again. -/
namespace Go.Proofs.Ytodokejcmbjpbaa.Pu
open Go.RowKit Go.Proofs.Ytodokejcmbjpbaa.PK Go.Proofs.YtodokejcmbjpbaaW.PrintWords
def catN (ts : List ByteArray) : List Nat := (ts.map byt).flatten
def sizeT (ts : List ByteArray) : Nat := (ts.map ByteArray.size).sum
theorem catN_len : ∀ ts : List ByteArray, (catN ts).length = sizeT ts
  | [] => rfl
  | t :: ts => by
    show (byt t ++ catN ts).length = t.size + sizeT ts
    rw [List.length_append, byt_len, catN_len ts]
theorem catN_snoc (ts : List ByteArray) (t : ByteArray) : catN (ts ++ [t]) = catN ts ++ byt t := by
  unfold catN; simp
theorem catN_last : ∀ (ts : List ByteArray) (t : ByteArray), 0 < ts.length → catN (ts.set (ts.length - 1) (lastT ts ++ t)) = catN ts ++ byt t
  | [], t, h => by cases h
  | [x], t, _ => by
    show byt (x ++ t) ++ [] = (byt x ++ []) ++ byt t
    rw [byt_app]; simp
  | x :: y :: r, t, _ => by
    have h := catN_last (y :: r) t (by simp)
    have e : (x :: y :: r).set ((x :: y :: r).length - 1) (lastT (x :: y :: r) ++ t) = x :: (y :: r).set ((y :: r).length - 1) (lastT (y :: r) ++ t) := rfl
    rw [e]
    show byt x ++ catN ((y :: r).set _ _) = (byt x ++ catN (y :: r)) ++ byt t
    rw [h, List.append_assoc]
/-- What the pages of records bear; a page that is closed bears 87 bytes at least. -/
theorem txs_ok : ∀ (rs : List S45) (ts : List ByteArray), (∀ x ∈ rs, okR x = true ∧ (recText x.f0 x.f1 x.f2 x.f3).size ≤ 4) → 0 < ts.length → 87 * (ts.length - 1) + (lastT ts).size ≤ sizeT ts →
    ∃ ts', txs rs ts = some ts' ∧ catN ts' = catN ts ++ recsN rs ∧ 0 < ts'.length ∧ 87 * (ts'.length - 1) + (lastT ts').size ≤ sizeT ts' ∧ sizeT ts' ≤ sizeT ts + 4 * rs.length
  | [], ts, _, h0, hq => ⟨ts, rfl, (List.append_nil _).symm, h0, hq, Nat.le_refl _⟩
  | r :: rs, ts, h, h0, hq => by
    obtain ⟨ho, hs⟩ := h r List.mem_cons_self
    have hb := byt_rec ho
    have hro : recOk r.f0 r.f1 r.f2 r.f3 = true := ho
    unfold txs
    rw [if_pos hro]
    generalize hT : recText r.f0 r.f1 r.f2 r.f3 = t at hs hb
    have hc : catN (txF ts t) = catN ts ++ byt t ∧ 0 < (txF ts t).length ∧ 87 * ((txF ts t).length - 1) + (lastT (txF ts t)).size ≤ sizeT (txF ts t) := by
      unfold txF
      by_cases hl : ((lastT ts).size : Int) + (t.size : Int) > 90
      · rw [if_pos hl]
        refine ⟨catN_snoc ts t, by simp, ?_⟩
        have es : sizeT (ts ++ [t]) = sizeT ts + t.size := by rw [← catN_len, catN_snoc, List.length_append, catN_len, byt_len]
        have e : lastT (ts ++ [t]) = t := by
          unfold lastT
          rw [List.length_append, List.length_singleton, Nat.add_sub_cancel, List.getD_eq_getElem?_getD, List.getElem?_append_right (Nat.le_refl _)]
          simp
        rw [e, es, List.length_append, List.length_singleton]
        omega
      · rw [if_neg hl]
        refine ⟨catN_last ts t h0, by rw [List.length_set]; exact h0, ?_⟩
        have es : sizeT (ts.set (ts.length - 1) (lastT ts ++ t)) = sizeT ts + t.size := by rw [← catN_len, catN_last ts t h0, List.length_append, catN_len, byt_len]
        have e : lastT (ts.set (ts.length - 1) (lastT ts ++ t)) = lastT ts ++ t := by
          show (ts.set (ts.length - 1) (lastT ts ++ t)).getD ((ts.set (ts.length - 1) (lastT ts ++ t)).length - 1) ByteArray.empty = _
          rw [List.length_set, getDset _ _ _ (by omega), if_pos rfl]
        rw [e, es, List.length_set, ByteArray.size_append]
        omega
    obtain ⟨c1, c2, c3⟩ := hc
    obtain ⟨ts', a1, a2, a3, a4, a5⟩ := txs_ok rs (txF ts t) (fun x hx => h x (List.mem_cons_of_mem _ hx)) c2 c3
    refine ⟨ts', a1, ?_, a3, a4, ?_⟩
    · rw [a2, c1, hb, List.append_assoc]; rfl
    · have e := catN_len (txF ts t)
      rw [c1, List.length_append, catN_len, byt_len] at e
      simp only [List.length_cons]
      omega
theorem txs_start {rs : List S45} (h : ∀ x ∈ rs, okR x = true ∧ (recText x.f0 x.f1 x.f2 x.f3).size ≤ 4) (hn : rs.length ≤ 120) : ∃ ts, txs rs [⟨#[]⟩] = some ts ∧ catN ts = recsN rs ∧ 0 < ts.length ∧ ts.length ≤ 6 ∧ sizeT ts ≤ 480 := by
  obtain ⟨ts, a1, a2, a3, a4, a5⟩ := txs_ok rs [⟨#[]⟩] h (by decide) (by decide)
  have e0 : sizeT [⟨#[]⟩] = 0 := rfl
  have e1 : catN [⟨#[]⟩] = [] := rfl
  rw [e1, List.nil_append] at a2
  exact ⟨ts, a1, a2, a3, by omega, by omega⟩
theorem small_size {x : S45} (h : okR x = true) (h2 : x.f2 ≤ 15) (h3 : x.f3 ≤ 300) : (recText x.f0 x.f1 x.f2 x.f3).size ≤ 4 := by
  obtain ⟨_, _, _, _, h5, h6, h7, h8⟩ := recOk_range h
  rw [← byt_len, byt_rec h, recN_len, varN_len, varN_len]
  have s1 := (varL_len 0 x.f2.toNat (by omega)).1
  have s2 := (varL_len 1 x.f3.toNat (by omega)).1
  omega
theorem txFin_ok {s x : Int} {ts : List ByteArray} (hl : ts.length ≤ 9) (hs : 1 ≤ s) (hs2 : s ≤ 1000) (hx : 1 ≤ x ∧ x ≤ 1000000000) : txFin s x (some ts) = (pagesB s x ts, true) := by
  unfold txFin
  simp only
  rw [if_neg (by omega), w64 (x := 1000000000 - (ts.length : Int)) (by omega) (by omega), w64 (by omega) (by omega), if_pos ⟨hs, by omega⟩, if_pos hx]
def fnd (q : S33) : S36 := ⟨0, 0, q⟩
theorem pages_len (s x : Int) (ts : List ByteArray) : (pagesB s x ts).length = ts.length := by unfold pagesB; simp
theorem page_mem {s x : Int} {ts : List ByteArray} {q : S33} (h : q ∈ pagesB s x ts) : ∃ i, i < ts.length ∧ q = pageB s x ts i := by
  unfold pagesB at h
  obtain ⟨i, hi, rfl⟩ := List.mem_map.1 h
  exact ⟨i, by simp at hi; omega, rfl⟩
/-- The one that meets a test. -/
theorem find_one {l : List S36} {T : S36 → Bool} {q : S33} (h1 : ∃ f ∈ l, T f = true) (h2 : ∀ f ∈ l, T f = true → f.f2 = q) : (l.find? T).map (fun f => f.f2) = some q := by
  cases e : l.find? T with
  | none =>
    obtain ⟨f, hf, ht⟩ := h1
    have := List.find?_eq_none.1 e f hf
    exact absurd ht this
  | some f => rw [Option.map_some, h2 f (List.mem_of_find?_eq_some e) (List.find?_some e)]
/-- Pages of one transaction among others: all of its pages, and none else of its number. -/
def Has (l : List S36) (s x : Int) (ts : List ByteArray) : Prop := (∀ i, i < ts.length → ∃ f ∈ l, f.f2 = pageB s x ts i) ∧ ∀ f ∈ l, f.f2.f2 = x → ∃ i, i < ts.length ∧ f.f2 = pageB s x ts i
theorem meta_page {l : List S36} {s x : Int} {ts : List ByteArray} (h : Has l s x ts) {i : Nat} (hi : i < ts.length) {c : Int} (hc : c = 0 ∨ c = (ts.length : Int)) : metaB l x (i : Int) c = some (pageB s x ts i) := by
  refine find_one ?_ fun f hf ht => ?_
  · obtain ⟨f, hf, e⟩ := h.1 i hi
    refine ⟨f, hf, ?_⟩
    unfold metaT
    rw [e]
    show (decide ((2 : Int) = 2) && (decide (x = x) && (decide ((i : Int) = (i : Int)) && (decide (c = 0) || decide ((ts.length : Int) = c))))) = true
    rcases hc with hc | hc <;> simp [hc]
  · unfold metaT at ht
    simp only [Bool.and_eq_true, decide_eq_true_eq] at ht
    obtain ⟨j, hj, e⟩ := h.2 f hf ht.2.1
    have h3 := ht.2.2.1
    rw [e] at h3
    have h4 : (j : Int) = (i : Int) := h3
    rw [e, show j = i by omega]
theorem seq_mn {s : Int} {i : Nat} (h0 : 1 ≤ s) (h1 : s ≤ 1000) (hi : i ≤ 9) : mn s (wrap64 (s + (i : Int))) = s := by
  rw [w64 (by omega) (by omega)]
  unfold mn
  omega
theorem go_pages {l : List S36} {s x : Int} {ts : List ByteArray} (h : Has l s x ts) (hl : ts.length ≤ 9) (h0 : 1 ≤ s) (h1 : s ≤ 1000) : ∀ (d p : Nat) (t : ByteArray), p + d = ts.length → ∃ t', goB l x (ts.length : Int) d (p : Int) t s = some (t', s) ∧ byt t' = byt t ++ catN (ts.drop p)
  | 0, p, t, hp => ⟨t, rfl, by rw [List.drop_eq_nil_of_le (by omega)]; exact (List.append_nil _).symm⟩
  | d + 1, p, t, hp => by
    have hlt : p < ts.length := by omega
    unfold goB
    rw [meta_page h hlt (.inr rfl)]
    obtain ⟨t', e1, e2⟩ := go_pages h hl h0 h1 d (p + 1) (t ++ ts.getD p ByteArray.empty) (by omega)
    refine ⟨t', ?_, ?_⟩
    · show goB l x (ts.length : Int) d ((p : Int) + 1) (t ++ ts.getD p ByteArray.empty) (mn s (wrap64 (s + (p : Int)))) = _
      rw [seq_mn h0 h1 (by omega)]
      exact e1
    · rw [e2, byt_app, dropT ByteArray.empty hlt, List.append_assoc]; rfl
theorem tx_pages {l : List S36} {s x : Int} {ts : List ByteArray} {rs : List S45} (h : Has l s x ts) (hp : 0 < ts.length) (hl : ts.length ≤ 9) (h0 : 1 ≤ s) (h1 : s ≤ 1000) (hc : catN ts = recsN rs) (ho : ∀ y ∈ rs, okR y = true) : txB l x = (x, s, rs, true) := by
  unfold txB
  have hm := meta_page h hp (c := 0) (.inl rfl)
  have hm : metaB l x 0 0 = some (pageB s x ts 0) := hm
  rw [hm]
  obtain ⟨t', e1, e2⟩ := go_pages h hl h0 h1 (ts.length - 1) 1 (ts.getD 0 ByteArray.empty) (by omega)
  have es : wrap64 (s + ((0 : Nat) : Int)) = s := by rw [w64 (by omega) (by omega)]; omega
  show (match goB l x (ts.length : Int) ((ts.length : Int) - 1).toNat 1 (ts.getD 0 ByteArray.empty) (wrap64 (s + ((0 : Nat) : Int))) with | none => (0, 0, [], false) | some (t, s) => (x, s, (rrT t).1, (rrT t).2)) = _
  rw [es, show ((ts.length : Int) - 1).toNat = ts.length - 1 by omega]
  have e1 : goB l x (ts.length : Int) (ts.length - 1) 1 (ts.getD 0 ByteArray.empty) s = some (t', s) := e1
  rw [e1]
  have hb : byt t' = recsN rs := by
    rw [e2, ← hc]
    have := dropT (l := ts) (i := 0) ByteArray.empty hp
    rw [List.drop_zero] at this
    conv => rhs; rw [this]
    rfl
  have ht := trip t' rs (t'.size + 1) 0 [] (by rw [List.drop_zero]; exact hb) ho (by omega) (by omega)
  show (x, s, (rrT t').1, (rrT t').2) = _
  unfold rrT
  rw [ht]; rfl
theorem num_fold {x : Int} : ∀ (l : List S36) (s : List Int), (∀ f ∈ l, f.f2.f0 = 2 ∧ f.f2.f2 = x) → x ∈ s → l.foldl numF s = s
  | [], s, _, _ => rfl
  | f :: l, s, h, hx => by
    obtain ⟨_, h2⟩ := h f List.mem_cons_self
    rw [List.foldl_cons]
    unfold numF
    rw [if_neg (fun g => g.2 (by rw [h2]; exact hx))]
    exact num_fold l s (fun g hg => h g (List.mem_cons_of_mem _ hg)) hx
theorem num_new {x : Int} {l : List S36} {s : List Int} (h : ∀ f ∈ l, f.f2.f0 = 2 ∧ f.f2.f2 = x) (h0 : 0 < l.length) (hx : ¬ x ∈ s) : l.foldl numF s = s ++ [x] := by
  cases l with
  | nil => cases h0
  | cons f l =>
    obtain ⟨h1, h2⟩ := h f List.mem_cons_self
    rw [List.foldl_cons]
    have e : numF s f = s ++ [x] := by
      unfold numF
      rw [h2, if_pos ⟨h1, hx⟩]
    rw [e]
    exact num_fold l _ (fun g hg => h g (List.mem_cons_of_mem _ hg)) (by simp)
theorem sizes_pages (s x : Int) (ts : List ByteArray) : sizesN ((pagesB s x ts).map fnd) = sizeT ts := by
  unfold sizesN pagesB sizeT
  rw [List.map_map, List.map_map]
  congr 1
  apply List.ext_getElem
  · simp
  · intro i h1 h2
    simp only [List.length_map, List.length_range'] at h1
    simp only [List.getElem_map, List.getElem_range', Function.comp]
    show (ts.getD (0 + 1 * i) ByteArray.empty).size = _
    rw [Nat.zero_add, Nat.one_mul, List.getD_eq_getElem?_getD, List.getElem?_eq_getElem h1]; rfl
theorem sizes_app (a b : List S36) : sizesN (a ++ b) = sizesN a + sizesN b := by
  unfold sizesN
  rw [List.map_append, List.sum_append]
end Go.Proofs.Ytodokejcmbjpbaa.Pu

/- The reference's draws: a byte, a number below a bound, some places. -/
namespace Go.Proofs.Ytodokejcmbjpbaa.Pu
open Go.RowKit Go.Proofs.Ytodokejcmbjpbaa.PK Go.Proofs.YtodokejcmbjpbaaW.PrintWords
theorem and255 (x : Int) : 0 ≤ Go.bits .and .i64 x 255 ∧ Go.bits .and .i64 x 255 ≤ 255 := by
  have h : (BitVec.ofInt 64 x &&& BitVec.ofInt 64 255).toNat ≤ 255 := by
    rw [BitVec.toNat_and]; exact Nat.le_trans Nat.and_le_right (by decide)
  have e : Go.bits .and .i64 x 255 = Go.IntKind.i64.wrap ((BitVec.ofInt 64 x &&& BitVec.ofInt 64 255).toNat : Int) := rfl
  rw [e, Go.IntKind.wrap_i64]
  omega
/-- A draw's state: the place lies in the code. -/
theorem byte_eq (b : List Int) (i h : Int) (h0 : 0 ≤ i) (h1 : i ≤ b.length) (hb : b.length ≤ 9223372036854775807) : ∃ v i' h', spec_l01Byte.f b i h = some (v, i', h') ∧ (0 ≤ v ∧ v ≤ 255) ∧ 0 ≤ i' ∧ i' ≤ b.length := by
  unfold spec_l01Byte.f
  by_cases hi : i < (b.length : Int)
  · rw [if_pos hi, if_pos h0, w64 (x := i + 1) (by omega) (by omega)]
    exact ⟨_, _, _, rfl, and255 _, by omega, by omega⟩
  · rw [if_neg hi]
    exact ⟨_, _, _, rfl, and255 _, by omega, by omega⟩
theorem below_eq (b : List Int) (i h n : Int) (h0 : 0 ≤ i) (h1 : i ≤ b.length) (hb : b.length ≤ 9223372036854775807) (hn : 0 < n) : ∃ v i' h', spec_l01Below.f b i h n = some (v, i', h') ∧ (0 ≤ v ∧ v < n) ∧ 0 ≤ i' ∧ i' ≤ b.length := by
  unfold spec_l01Below.f
  rw [if_neg (by omega)]
  obtain ⟨v, i1, g1, e1, ⟨v0, v1⟩, a1, b1⟩ := byte_eq b i h h0 h1 hb
  rw [e1]
  by_cases hs : n ≤ 256
  · rw [if_pos hs, Option.bind_some, if_neg (by omega)]
    exact ⟨_, _, _, rfl, ⟨Int.tmod_nonneg _ v0, Int.tmod_lt_of_pos _ hn⟩, a1, b1⟩
  · rw [if_neg hs, Option.bind_some]
    obtain ⟨y, i2, g2, e2, ⟨y0, y1⟩, a2, b2⟩ := byte_eq b i1 g1 a1 b1 hb
    obtain ⟨z, i3, g3, e3, ⟨z0, z1⟩, a3, b3⟩ := byte_eq b i2 g2 a2 b2 hb
    obtain ⟨u, i4, g4, e4, ⟨u0, u1⟩, a4, b4⟩ := byte_eq b i3 g3 a3 b3 hb
    simp only [e2, e3, e4, Option.bind_some]
    rw [if_neg (by omega), w64 (x := v * 16777216) (by omega) (by omega), w64 (x := y * 65536) (by omega) (by omega), w64 (x := v * 16777216 + y * 65536) (by omega) (by omega), w64 (x := z * 256) (by omega) (by omega), w64 (x := v * 16777216 + y * 65536 + z * 256) (by omega) (by omega), w64 (x := v * 16777216 + y * 65536 + z * 256 + u) (by omega) (by omega)]
    exact ⟨_, _, _, rfl, ⟨Int.tmod_nonneg _ (by omega), Int.tmod_lt_of_pos _ hn⟩, a4, b4⟩
theorem new_ev (b : List Int) (hb : b.length ≤ 9223372036854775807) : ∃ h, Ev (fun k => spec_l01New.f k b) (b, 0, h) := by
  unfold spec_l01New.f
  have main : ∀ (d i : Nat) (h : Int), i + d = b.length → ∃ g, Ev (fun k => spec_l01New.l0 k b h (i : Int)) (b, 0, g) := by
    intro d
    induction d with
    | zero => intro i h hi; exact ⟨h, ev_some fun k => by simp only [spec_l01New.l0]; rw [if_neg (by omega)]⟩
    | succ d ih =>
      intro i h hi
      by_cases hf : (i : Int) < 4000
      · obtain ⟨g, hg⟩ := ih (i + 1) (Go.bits .and .i64 (wrap64 ((wrap64 ((wrap64 (h * 131)) + (wrap64 (rd b (i : Int))))) + 7)) 1073741823) (by omega)
        refine ⟨g, Ev.step (fun k => ?_) hg⟩
        simp only [spec_l01New.l0]
        rw [if_pos (by omega), if_pos hf, if_pos (by omega), wsucc (n := b.length) (by omega) hb]
      · exact ⟨h, ev_some fun k => by simp only [spec_l01New.l0]; rw [if_pos (by omega), if_neg hf]⟩
  exact main b.length 0 _ (by omega)
end Go.Proofs.Ytodokejcmbjpbaa.Pu

/- The reference's draws of records, of their bytes, and of bytes that are spoilt. -/
namespace Go.Proofs.Ytodokejcmbjpbaa.Pu
open Go.RowKit Go.Proofs.Ytodokejcmbjpbaa.PK Go.Proofs.YtodokejcmbjpbaaW.PrintWords
theorem pick_eq (b : List Int) (i h : Int) (l : List Int) (h0 : 0 ≤ i) (h1 : i ≤ b.length) (hb : b.length ≤ 9223372036854775807) (hl : 1 ≤ l.length) : ∃ v i' h', spec_l01PickInt.f b i h l = some (v, i', h') ∧ v ∈ l ∧ 0 ≤ i' ∧ i' ≤ b.length := by
  obtain ⟨v, j, g, e, ⟨v0, v1⟩, a1, b1⟩ := below_eq b i h (l.length : Int) h0 h1 hb (by omega)
  unfold spec_l01PickInt.f
  rw [e, Option.bind_some, if_pos v0, if_pos v1]
  exact ⟨_, _, _, rfl, getD_mem' (by omega), a1, b1⟩
theorem once_eq (b : List Int) (i h n : Int) (h0 : 0 ≤ i) (h1 : i ≤ b.length) (hb : b.length ≤ 9223372036854775807) (hn : 0 < n) : ∃ v i' h', spec_l01Once.f b i h n = some (v, i', h') ∧ 0 ≤ i' ∧ i' ≤ b.length := by
  obtain ⟨v, j, g, e, _, a1, b1⟩ := below_eq b i h n h0 h1 hb hn
  unfold spec_l01Once.f
  rw [e, Option.bind_some]
  exact ⟨_, _, _, rfl, a1, b1⟩
theorem rec_draw (b : List Int) (i h : Int) (h0 : 0 ≤ i) (h1 : i ≤ b.length) (hb : b.length ≤ 9223372036854775807) : ∃ t v a c i' h', spec_l09Rec.f b i h = some (t, v, a, c, i', h') ∧ (recOk t v a c = true ∧ a ≤ 15 ∧ c ≤ 9) ∧ 0 ≤ i' ∧ i' ≤ b.length := by
  unfold spec_l09Rec.f
  obtain ⟨t, i1, g1, e1, t1, a1, b1⟩ := pick_eq b i h [2, 2, 3, 4, 4, 4, 4, 4, 5] h0 h1 hb (by decide)
  obtain ⟨v, i2, g2, e2, ⟨v0, v1⟩, a2, b2⟩ := below_eq b i1 g1 3 a1 b1 hb (by omega)
  rw [e1, Option.bind_some]
  simp only
  rw [e2, Option.bind_some]
  simp only
  have ht : t = 2 ∨ t = 3 ∨ t = 4 ∨ t = 5 := by simp at t1; omega
  rw [w64 (x := 1 + v) (by omega) (by omega)]
  by_cases k2 : t = 2
  · obtain ⟨x, i3, g3, e3, x1, a3, b3⟩ := pick_eq b i2 g2 [0, 0, 1, 2] a2 b2 hb (by decide)
    have hx : x = 0 ∨ x = 1 ∨ x = 2 := by simp at x1; omega
    rw [if_pos k2, e3]
    exact ⟨_, _, _, _, _, _, rfl, ⟨by unfold recOk; rw [decide_eq_true_eq]; omega, by omega, by omega⟩, a3, b3⟩
  · rw [if_neg k2]
    by_cases k4 : t = 4
    · obtain ⟨x, i3, g3, e3, ⟨x0, x1⟩, a3, b3⟩ := below_eq b i2 g2 16 a2 b2 hb (by omega)
      obtain ⟨y, i4, g4, e4, ⟨y0, y1⟩, a4, b4⟩ := below_eq b i3 g3 9 a3 b3 hb (by omega)
      rw [if_pos k4, e3, Option.bind_some]
      simp only
      rw [e4, Option.bind_some]
      simp only
      rw [w64 (x := 1 + y) (by omega) (by omega)]
      exact ⟨_, _, _, _, _, _, rfl, ⟨by unfold recOk; rw [decide_eq_true_eq]; omega, by omega, by omega⟩, a4, b4⟩
    · rw [if_neg k4]
      by_cases k5 : t = 5
      · obtain ⟨x, i3, g3, e3, ⟨x0, x1⟩, a3, b3⟩ := below_eq b i2 g2 16 a2 b2 hb (by omega)
        rw [if_pos k5, e3]
        exact ⟨_, _, _, _, _, _, rfl, ⟨by unfold recOk; rw [decide_eq_true_eq]; omega, by omega, by omega⟩, a3, b3⟩
      · rw [if_neg k5]
        exact ⟨_, _, _, _, _, _, rfl, ⟨by unfold recOk; rw [decide_eq_true_eq]; omega, by omega, by omega⟩, a2, b2⟩
theorem recs_draw (b : List Int) (i h : Int) (h0 : 0 ≤ i) (h1 : i ≤ b.length) (hb : b.length ≤ 9223372036854775807) : ∃ L i' h', Ev (fun k => spec_l09Recs.f k b i h) (L, i', h') ∧ (∀ x ∈ L, okR x = true ∧ x.f2 ≤ 15 ∧ x.f3 ≤ 9) ∧ L.length ≤ 8 ∧ 0 ≤ i' ∧ i' ≤ b.length := by
  unfold spec_l09Recs.f
  have main : ∀ (d m : Nat) (acc : List S45) (j g : Int), m + d = 8 → acc.length = m → (∀ x ∈ acc, okR x = true ∧ x.f2 ≤ 15 ∧ x.f3 ≤ 9) → 0 ≤ j → j ≤ b.length → ∃ L i' h', Ev (fun k => spec_l09Recs.l0 k acc (m : Int) b j g) (L, i', h') ∧ (∀ x ∈ L, okR x = true ∧ x.f2 ≤ 15 ∧ x.f3 ≤ 9) ∧ L.length ≤ 8 ∧ 0 ≤ i' ∧ i' ≤ b.length := by
    intro d
    induction d with
    | zero =>
      intro m acc j g hm hl ha hj0 hj1
      obtain ⟨v, j2, g2, e2, ⟨v0, v1⟩, a2, b2⟩ := below_eq b j g 9 hj0 hj1 hb (by omega)
      refine ⟨acc, j2, g2, ev_some fun k => ?_, ha, by omega, a2, b2⟩
      simp only [spec_l09Recs.l0, e2, Option.bind_some]
      rw [if_neg (by omega)]
    | succ d ih =>
      intro m acc j g hm hl ha hj0 hj1
      obtain ⟨v, j2, g2, e2, ⟨v0, v1⟩, a2, b2⟩ := below_eq b j g 9 hj0 hj1 hb (by omega)
      by_cases hv : (m : Int) < v
      · obtain ⟨t, x, a, c, j3, g3, e3, ok, a3, b3⟩ := rec_draw b j2 g2 a2 b2 hb
        obtain ⟨L, i', h', l1, l2, l3, l4, l5⟩ := ih (m + 1) (acc ++ [⟨t, x, a, c⟩]) j3 g3 (by omega) (by simp; omega) (fun y hy => by
          rcases List.mem_append.1 hy with hy | hy
          · exact ha y hy
          · obtain rfl := List.mem_singleton.1 hy; exact ok) a3 b3
        refine ⟨L, i', h', Ev.step (fun k => ?_) l1, l2, l3, l4, l5⟩
        simp only [spec_l09Recs.l0, e2, e3, Option.bind_some]
        rw [if_pos hv, if_pos (by omega), wsucc (n := 8) (by omega) (by omega)]
      · refine ⟨acc, j2, g2, ev_some fun k => ?_, ha, by omega, a2, b2⟩
        simp only [spec_l09Recs.l0, e2, Option.bind_some]
        rw [if_neg hv]
  exact main 8 0 [] i h rfl rfl (fun x hx => by cases hx) h0 h1
end Go.Proofs.Ytodokejcmbjpbaa.Pu

/- The drawn pages that are gathered: they are few and short, and their counts are small. -/
namespace Go.Proofs.Ytodokejcmbjpbaa.Pu
open Go.RowKit Go.Proofs.Ytodokejcmbjpbaa.PK Go.Proofs.YtodokejcmbjpbaaW.PrintWords
def Few (n s : Nat) (l : List S36) : Prop := l.length ≤ n ∧ sizesN l ≤ s ∧ ∀ f ∈ l, f.f2.f4 ≤ 10
theorem size_one (f : S36) : sizesN [f] = f.f2.f5.size := by simp [sizesN]
theorem few_snoc {n s z : Nat} {l : List S36} (h : Few n s l) (f : S36) (hz : f.f2.f5.size ≤ z) (hf : f.f2.f4 ≤ 10) : Few (n + 1) (s + z) (l ++ [f]) := by
  obtain ⟨h1, h2, h3⟩ := h
  refine ⟨by simp; omega, by rw [sizes_app, size_one]; omega, fun y hy => ?_⟩
  rcases List.mem_append.1 hy with hy | hy
  · exact h3 y hy
  · obtain rfl := List.mem_singleton.1 hy; exact hf
theorem few_le {n s n' s' : Nat} {l : List S36} (h : Few n s l) (hn : n ≤ n') (hs : s ≤ s') : Few n' s' l := ⟨Nat.le_trans h.1 hn, Nat.le_trans h.2.1 hs, h.2.2⟩
theorem getD_size : ∀ (ts : List ByteArray) (i : Nat), (ts.getD i ByteArray.empty).size ≤ sizeT ts := by
  intro ts
  induction ts with
  | nil => intro i; simp [sizeT]
  | cons t ts ih =>
    intro i
    unfold sizeT at ih ⊢
    rw [List.map_cons, List.sum_cons]
    cases i with
    | zero => show t.size ≤ _; omega
    | succ i => have := ih i; show (ts.getD i ByteArray.empty).size ≤ _; omega
def Rok (rs : List S45) : Prop := rs.length ≤ 60 ∧ ∀ x ∈ rs, okR x = true ∧ x.f2 ≤ 15 ∧ x.f3 ≤ 300
def Pok (P : List S33) : Prop := P.length ≤ 9 ∧ ∀ q ∈ P, (0 ≤ q.f4 ∧ q.f4 ≤ 9) ∧ q.f5.size ≤ 480
theorem pok_nil : Pok [] := ⟨by simp, fun q h => by cases h⟩
theorem pages_small {rs : List S45} (s x : Int) (h : Rok rs) : Pok (txFin s x (txs rs [⟨#[]⟩])).1 := by
  obtain ⟨ts, e, _, _, hl, hz⟩ := txs_start (rs := rs) (fun y hy => ⟨(h.2 y hy).1, small_size (h.2 y hy).1 (h.2 y hy).2.1 (h.2 y hy).2.2⟩) (by have := h.1; omega)
  rw [e]
  unfold txFin
  by_cases h1 : (ts.length : Int) > 9
  · simp only [if_pos h1]; exact pok_nil
  · simp only [if_neg h1]
    by_cases h2 : 1 ≤ s ∧ s ≤ wrap64 (wrap64 (1000000000 - (ts.length : Int)) + 1)
    · by_cases h3 : 1 ≤ x ∧ x ≤ 1000000000
      · simp only [if_pos h2, if_pos h3]
        refine ⟨by rw [pages_len]; omega, fun q hq => ?_⟩
        obtain ⟨i, hi, rfl⟩ := page_mem hq
        have := getD_size ts i
        refine ⟨⟨by show (0 : Int) ≤ (ts.length : Int); omega, by show (ts.length : Int) ≤ 9; omega⟩, ?_⟩
        show (ts.getD i ByteArray.empty).size ≤ 480
        omega
      · simp only [if_pos h2, if_neg h3]; exact pok_nil
    · simp only [if_neg h2]; exact pok_nil
theorem rdFP_nat (l : List S33) (i : Nat) : rd_T33 l (i : Int) = l.getD i z33 := rfl

theorem found2 (b : List Int) (hb : b.length ≤ 9223372036854775807) (P : List S33) (hP : Pok P) (x5 : Int) (n s : Nat) (hn : n ≤ 1000) (G : List S36 × Int × Int → Prop)
    (next : ∀ (out : List S36) (x4 i h : Int), Few (n + 19) (s + 8641) out → 0 ≤ i → i ≤ b.length → ∃ r, Ev (fun k => spec_l10Found.l0 k out x4 (wrap64 (x5 + 1)) b i h) r ∧ G r) :
    ∀ (d j : Nat) (out : List S36) (x4 i h : Int), j + d = P.length → Few (n + 2 * j) (s + 960 * j) out → 0 ≤ i → i ≤ b.length → ∃ r, Ev (fun k => spec_l10Found.l2 k out x4 x5 P (j : Int) b i h) r ∧ G r := by
  intro d
  induction d with
  | zero =>
    intro j out x4 i h hj hf h0 h1
    have hl := hP.1
    have hlen := hf.1
    obtain ⟨v, i2, g2, e2, a2, b2⟩ := once_eq b i h 4 h0 h1 hb (by omega)
    cases v with
    | true =>
      obtain ⟨r, hr, hg⟩ := next (out ++ [(⟨0, 0, (⟨1, x4, x5, 0, 1, (⟨#[120]⟩ : ByteArray)⟩ : S33)⟩ : S36)]) x4 i2 g2 (few_le (few_snoc (z := 1) hf _ (Nat.le_refl 1) (by show (1 : Int) ≤ 10; decide)) (by omega) (by omega)) a2 b2
      refine ⟨r, Ev.step (fun k => ?_) hr, hg⟩
      simp only [spec_l10Found.l2, e2, Option.bind_some, if_true]
      rw [if_neg (by omega), if_pos (by omega)]
    | false =>
      obtain ⟨r, hr, hg⟩ := next out x4 i2 g2 (few_le hf (by omega) (by omega)) a2 b2
      refine ⟨r, Ev.step (fun k => ?_) hr, hg⟩
      simp only [spec_l10Found.l2, e2, Option.bind_some, Bool.false_eq_true, if_false]
      rw [if_neg (by omega)]
  | succ d ih =>
    intro j out x4 i h hj hf h0 h1
    have hl := hP.1
    have hlen := hf.1
    have hjl : j < P.length := by omega
    have hq := hP.2 _ (getD_mem' (z := z33) hjl)
    have hw : wrap64 ((P.getD j z33).f4 + 1) ≤ 10 := by rw [w64 (by omega) (by omega)]; omega
    obtain ⟨v, i2, g2, e2, a2, b2⟩ := once_eq b i h 8 h0 h1 hb (by omega)
    obtain ⟨u, i3, g3, e3, a3, b3⟩ := once_eq b i2 g2 16 a2 b2 hb (by omega)
    have hR : rd_T33 P (j : Int) = P.getD j z33 := rfl
    revert hR hq hw
    generalize P.getD j z33 = q
    intro hq hw hR
    have f0 : Few (n + 2 * j + 1) (s + 960 * j + 480) (out ++ [(⟨wrap64 (Int.tdiv x4 4), Int.tmod x4 4, (⟨q.f0, q.f1, q.f2, q.f3, q.f4, q.f5⟩ : S33)⟩ : S36)]) := few_snoc hf _ hq.2 (by show q.f4 ≤ 10; omega)
    cases v with
    | true =>
      cases u with
      | true =>
        obtain ⟨r, hr, hg⟩ := ih (j + 1) (out ++ [(⟨0, 0, (⟨q.f0, q.f1, q.f2, q.f3, wrap64 (q.f4 + 1), q.f5⟩ : S33)⟩ : S36)]) (wrap64 (x4 + 1)) i3 g3 (by omega) (few_le (few_snoc hf _ hq.2 hw) (by omega) (by omega)) a3 b3
        refine ⟨r, Ev.step (fun k => ?_) hr, hg⟩
        simp only [spec_l10Found.l2, e2, e3, Option.bind_some, if_true]
        rw [if_pos (by omega), if_pos (by omega), if_pos (by omega), hR, wsucc (n := 9) (by omega) (by omega)]
      | false =>
        obtain ⟨r, hr, hg⟩ := ih (j + 1) out (wrap64 (x4 + 1)) i3 g3 (by omega) (few_le hf (by omega) (by omega)) a3 b3
        refine ⟨r, Ev.step (fun k => ?_) hr, hg⟩
        simp only [spec_l10Found.l2, e2, e3, Option.bind_some, if_true, Bool.false_eq_true, if_false]
        rw [if_pos (by omega), wsucc (n := 9) (by omega) (by omega)]
    | false =>
      have fl := f0.1
      cases u with
      | true =>
        obtain ⟨r, hr, hg⟩ := ih (j + 1) _ (wrap64 (x4 + 1)) i3 g3 (by omega) (few_le (few_snoc f0 (⟨0, 0, (⟨q.f0, q.f1, q.f2, q.f3, wrap64 (q.f4 + 1), q.f5⟩ : S33)⟩ : S36) hq.2 hw) (by omega) (by omega)) a3 b3
        refine ⟨r, Ev.step (fun k => ?_) hr, hg⟩
        simp only [spec_l10Found.l2, e2, e3, Option.bind_some, if_true, Bool.false_eq_true, if_false]
        rw [if_pos (by omega), if_pos (by omega), if_pos (by omega), hR, if_pos (by omega), wsucc (n := 9) (by omega) (by omega)]
      | false =>
        obtain ⟨r, hr, hg⟩ := ih (j + 1) _ (wrap64 (x4 + 1)) i3 g3 (by omega) (few_le f0 (by omega) (by omega)) a3 b3
        refine ⟨r, Ev.step (fun k => ?_) hr, hg⟩
        simp only [spec_l10Found.l2, e2, e3, Option.bind_some, Bool.false_eq_true, if_false]
        rw [if_pos (by omega), if_pos (by omega), if_pos (by omega), hR, wsucc (n := 9) (by omega) (by omega)]
theorem found3 (b : List Int) (hb : b.length ≤ 9223372036854775807) (x5 : Int) (n s : Nat) (hn : n ≤ 1000) (G : List S36 × Int × Int → Prop)
    (next : ∀ (out : List S36) (x4 i h : Int), Few (n + 19) (s + 8641) out → 0 ≤ i → i ≤ b.length → ∃ r, Ev (fun k => spec_l10Found.l0 k out x4 (wrap64 (x5 + 1)) b i h) r ∧ G r)
    (out : List S36) (x4 i h : Int) (rs : List S45) (hr : Rok rs) (hf : Few n s out) (h0 : 0 ≤ i) (h1 : i ≤ b.length) : ∃ r, Ev (fun k => spec_l10Found.j3 k out x4 x5 rs b i h) r ∧ G r := by
  have hp := pages_small x4 x5 hr
  obtain ⟨r, e, hg⟩ := found2 b hb _ hp x5 n s hn G next _ 0 out x4 i h (by rw [Nat.zero_add]) (by simpa using hf) h0 h1
  refine ⟨r, ?_, hg⟩
  refine ev_step_bind (sTx_ev x4 x5 rs (by have := hr.1; omega)) (F := fun k a => spec_l10Found.l2 k out x4 x5 a.1 0 b i h) (fun k => ?_) e
  simp only [spec_l10Found.j3]
theorem rok_snoc {rs : List S45} (h : Rok rs) (hl : rs.length < 60) : Rok (rs ++ [(⟨4, 1, 3, wrap64 (200 + (rs.length : Int))⟩ : S45)]) := by
  refine ⟨by simp; omega, fun y hy => ?_⟩
  rcases List.mem_append.1 hy with hy | hy
  · exact h.2 y hy
  · obtain rfl := List.mem_singleton.1 hy
    rw [w64 (by omega) (by omega)]
    refine ⟨?_, by show (3 : Int) ≤ 15; decide, by show 200 + (rs.length : Int) ≤ 300; omega⟩
    show recOk 4 1 3 (200 + (rs.length : Int)) = true
    unfold recOk
    rw [decide_eq_true_eq]
    omega
theorem found1 (b : List Int) (x5 : Int) (G : List S36 × Int × Int → Prop) (out : List S36) (x4 i h : Int)
    (next : ∀ rs, Rok rs → ∃ r, Ev (fun k => spec_l10Found.j3 k out x4 x5 rs b i h) r ∧ G r) : ∀ (d : Nat) (rs : List S45), rs.length + d = 60 → Rok rs → ∃ r, Ev (fun k => spec_l10Found.l1 k out x4 x5 rs b i h) r ∧ G r := by
  intro d
  induction d with
  | zero =>
    intro rs hl hr
    obtain ⟨r, e, hg⟩ := next rs hr
    refine ⟨r, Ev.step (fun k => ?_) e, hg⟩
    simp only [spec_l10Found.l1]
    rw [if_neg (by omega)]
  | succ d ih =>
    intro rs hl hr
    obtain ⟨r, e, hg⟩ := ih _ (by simp; omega) (rok_snoc hr (by omega))
    refine ⟨r, Ev.step (fun k => ?_) e, hg⟩
    simp only [spec_l10Found.l1]
    rw [if_pos (by omega), if_pos (by omega)]
theorem found_draw (b : List Int) (i h : Int) (h0 : 0 ≤ i) (h1 : i ≤ b.length) (hb : b.length ≤ 9223372036854775807) : ∃ r, Ev (fun k => spec_l10Found.f k b i h) r ∧ Few 76 34564 r.1 := by
  have main : ∀ (d t : Nat) (out : List S36) (x4 i h : Int), t + d = 5 → 1 ≤ t → Few (19 * (t - 1)) (8641 * (t - 1)) out → 0 ≤ i → i ≤ b.length → ∃ r, Ev (fun k => spec_l10Found.l0 k out x4 (t : Int) b i h) r ∧ Few 76 34564 r.1 := by
    intro d
    induction d with
    | zero =>
      intro t out x4 i h ht ht1 hf h0 h1
      obtain ⟨v, i2, g2, e2, ⟨v0, v1⟩, a2, b2⟩ := below_eq b i h 5 h0 h1 hb (by omega)
      refine ⟨(out, i2, g2), ev_some fun k => ?_, few_le hf (by omega) (by omega)⟩
      simp only [spec_l10Found.l0, e2, Option.bind_some]
      rw [if_neg (by omega)]
    | succ d ih =>
      intro t out x4 i h ht ht1 hf h0 h1
      obtain ⟨v, i2, g2, e2, ⟨v0, v1⟩, a2, b2⟩ := below_eq b i h 5 h0 h1 hb (by omega)
      by_cases hv : (t : Int) ≤ v
      · obtain ⟨L, i3, g3, l1, l2, l3, a3, b3⟩ := recs_draw b i2 g2 a2 b2 hb
        obtain ⟨u, i4, g4, e4, a4, b4⟩ := once_eq b i3 g3 4 a3 b3 hb (by omega)
        have okL : Rok L := ⟨by omega, fun x hx => ⟨(l2 x hx).1, (l2 x hx).2.1, by have := (l2 x hx).2.2; omega⟩⟩
        have next : ∀ (out : List S36) (x4 i h : Int), Few (19 * (t - 1) + 19) (8641 * (t - 1) + 8641) out → 0 ≤ i → i ≤ b.length → ∃ r, Ev (fun k => spec_l10Found.l0 k out x4 (wrap64 ((t : Int) + 1)) b i h) r ∧ Few 76 34564 r.1 := by
          intro out x4 i h hf h0 h1
          rw [wsucc (n := 5) (by omega) (by omega)]
          exact ih (t + 1) out x4 i h (by omega) (by omega) (few_le hf (by omega) (by omega)) h0 h1
        have j1 : ∀ rs, Rok rs → rs.length ≤ 9 → ∃ r, Ev (fun k => spec_l10Found.j1 k out x4 (t : Int) rs b i4 g4) r ∧ Few 76 34564 r.1 := by
          intro rs hr hl
          obtain ⟨w, i5, g5, e5, a5, b5⟩ := once_eq b i4 g4 3 a4 b4 hb (by omega)
          have j3 : ∀ rs, Rok rs → ∃ r, Ev (fun k => spec_l10Found.j3 k out x4 (t : Int) rs b i5 g5) r ∧ Few 76 34564 r.1 := fun rs hr => found3 b hb (t : Int) (19 * (t - 1)) (8641 * (t - 1)) (by omega) (fun r => Few 76 34564 r.1) next out x4 i5 g5 rs hr hf a5 b5
          cases w with
          | true =>
            obtain ⟨r, e, hg⟩ := found1 b (t : Int) (fun r => Few 76 34564 r.1) out x4 i5 g5 j3 (60 - rs.length) rs (by omega) hr
            refine ⟨r, Ev.step (fun k => ?_) e, hg⟩
            simp only [spec_l10Found.j1, e5, Option.bind_some, if_true]
          | false =>
            obtain ⟨r, e, hg⟩ := j3 rs hr
            refine ⟨r, Ev.step (fun k => ?_) e, hg⟩
            simp only [spec_l10Found.j1, e5, Option.bind_some, Bool.false_eq_true, if_false]
        cases u with
        | true =>
          obtain ⟨r, e, hg⟩ := j1 ([(⟨1, 0, 5, 0⟩ : S45)] ++ L) ⟨by simp; omega, fun y hy => by
            rcases List.mem_append.1 hy with hy | hy
            · obtain rfl := List.mem_singleton.1 hy
              exact ⟨by decide, by show (5 : Int) ≤ 15; decide, by show (0 : Int) ≤ 300; decide⟩
            · exact okL.2 y hy⟩ (by simp; omega)
          refine ⟨r, ev_step_bind l1 (F := fun k a => (spec_l01Once.f b a.2.1 a.2.2 4).bind fun bt604 => (if bt604.1 = true then ((some (([(⟨1, 0, 5, 0⟩ : S45)] : List S45))).bind fun y607 => (if y607.length + a.1.length < 4398046511104 then (spec_l10Found.j1 k out x4 (t : Int) (y607 ++ a.1) b bt604.2.1 bt604.2.2) else (none))) else (spec_l10Found.j1 k out x4 (t : Int) a.1 b bt604.2.1 bt604.2.2))) (fun k => ?_) ?_, hg⟩
          · simp only [spec_l10Found.l0, e2, Option.bind_some]
            rw [if_pos hv]
          · have hc : [(⟨1, 0, 5, 0⟩ : S45)].length + L.length < 4398046511104 := by simp; omega
            simp only [e4, Option.bind_some, if_true, if_pos hc]
            exact e
        | false =>
          obtain ⟨r, e, hg⟩ := j1 L okL (by omega)
          refine ⟨r, ev_step_bind l1 (F := fun k a => (spec_l01Once.f b a.2.1 a.2.2 4).bind fun bt604 => (if bt604.1 = true then ((some (([(⟨1, 0, 5, 0⟩ : S45)] : List S45))).bind fun y607 => (if y607.length + a.1.length < 4398046511104 then (spec_l10Found.j1 k out x4 (t : Int) (y607 ++ a.1) b bt604.2.1 bt604.2.2) else (none))) else (spec_l10Found.j1 k out x4 (t : Int) a.1 b bt604.2.1 bt604.2.2))) (fun k => ?_) ?_, hg⟩
          · simp only [spec_l10Found.l0, e2, Option.bind_some]
            rw [if_pos hv]
          · simp only [e4, Option.bind_some, Bool.false_eq_true, if_false]
            exact e
      · refine ⟨(out, i2, g2), ev_some fun k => ?_, few_le hf (by omega) (by omega)⟩
        simp only [spec_l10Found.l0, e2, Option.bind_some]
        rw [if_neg hv]
  unfold spec_l10Found.f
  exact main 4 1 [] 1 i h rfl (Nat.le_refl _) ⟨by simp, by simp [sizesN], fun f hf => by cases hf⟩ h0 h1
theorem gather_draw (b : List Int) (hb : b.length ≤ 9223372036854775807) : ∃ L, Ev (fun k => spec_DrawGather.f k b) L ∧ Few 76 34564 L := by
  unfold spec_DrawGather.f
  obtain ⟨g0, hnew⟩ := new_ev b hb
  obtain ⟨r, hr, hf⟩ := found_draw b 0 g0 (by omega) (by omega) hb
  exact ⟨r.1, ev_bind hnew (ev_bind hr (Ev.now _)), hf⟩
end Go.Proofs.Ytodokejcmbjpbaa.Pu

/- The reference's Gather tells the same. -/
namespace Go.Proofs.Ytodokejcmbjpbaa.Pu
open Go.RowKit Go.Proofs.Ytodokejcmbjpbaa.PK Go.Proofs.YtodokejcmbjpbaaW.PrintWords
def numG (s : List Int) (f : S36) : List Int := if f.f2.f0 = 2 then insB s f.f2.f2 else s
theorem numG_asc : ∀ (l : List S36) (s : List Int), Asc s → Asc (l.foldl numG s)
  | [], s, h => h
  | f :: l, s, h => by
    rw [List.foldl_cons]
    refine numG_asc l _ ?_
    unfold numG
    split
    · exact ins_asc _ h
    · exact h
theorem numG_mem : ∀ (l : List S36) (s : List Int) (y : Int), y ∈ l.foldl numG s ↔ y ∈ s ∨ ∃ f ∈ l, f.f2.f0 = 2 ∧ f.f2.f2 = y
  | [], s, y => by simp
  | f :: l, s, y => by
    rw [List.foldl_cons, numG_mem l]
    unfold numG
    by_cases h : f.f2.f0 = 2
    · rw [if_pos h, ins_mem]
      constructor
      · rintro ((h1 | h1) | ⟨g, h1, h2⟩)
        · exact .inl h1
        · exact .inr ⟨f, List.mem_cons_self, h, h1.symm⟩
        · exact .inr ⟨g, List.mem_cons_of_mem _ h1, h2⟩
      · rintro (h1 | ⟨g, h1, h2⟩)
        · exact .inl (.inl h1)
        · rcases List.mem_cons.1 h1 with rfl | h1
          · exact .inl (.inr h2.2.symm)
          · exact .inr ⟨g, h1, h2⟩
    · rw [if_neg h]
      constructor
      · rintro (h1 | ⟨g, h1, h2⟩)
        · exact .inl h1
        · exact .inr ⟨g, List.mem_cons_of_mem _ h1, h2⟩
      · rintro (h1 | ⟨g, h1, h2⟩)
        · exact .inl h1
        · rcases List.mem_cons.1 h1 with rfl | h1
          · exact absurd h2.1 h
          · exact .inr ⟨g, h1, h2⟩
theorem numF_mem : ∀ (l : List S36) (s : List Int) (y : Int), y ∈ l.foldl numF s ↔ y ∈ s ∨ ∃ f ∈ l, f.f2.f0 = 2 ∧ f.f2.f2 = y
  | [], s, y => by simp
  | f :: l, s, y => by
    rw [List.foldl_cons, numF_mem l]
    have e : y ∈ numF s f ↔ y ∈ s ∨ (f.f2.f0 = 2 ∧ f.f2.f2 = y) := by
      unfold numF
      by_cases h : f.f2.f0 = 2 ∧ ¬ f.f2.f2 ∈ s
      · rw [if_pos h, List.mem_append, List.mem_singleton]
        constructor
        · rintro (h1 | h1)
          · exact .inl h1
          · exact .inr ⟨h.1, h1.symm⟩
        · rintro (h1 | h1)
          · exact .inl h1
          · exact .inr h1.2.symm
      · rw [if_neg h]
        constructor
        · exact .inl
        · rintro (h1 | ⟨h1, rfl⟩)
          · exact h1
          · by_cases h2 : f.f2.f2 ∈ s
            · exact h2
            · exact absurd ⟨h1, h2⟩ h
    rw [e]
    constructor
    · rintro ((h1 | h1) | ⟨g, h1, h2⟩)
      · exact .inl h1
      · exact .inr ⟨f, List.mem_cons_self, h1⟩
      · exact .inr ⟨g, List.mem_cons_of_mem _ h1, h2⟩
    · rintro (h1 | ⟨g, h1, h2⟩)
      · exact .inl (.inl h1)
      · rcases List.mem_cons.1 h1 with rfl | h1
        · exact .inl (.inr h2)
        · exact .inr ⟨g, h1, h2⟩
theorem numF_nodup : ∀ (l : List S36) (s : List Int), s.Nodup → (l.foldl numF s).Nodup
  | [], s, h => h
  | f :: l, s, h => by
    rw [List.foldl_cons]
    refine numF_nodup l _ ?_
    unfold numF
    split
    · rename_i h2
      rw [List.nodup_append]
      exact ⟨h, by simp, fun a ha b hb => by obtain rfl := List.mem_singleton.1 hb; rintro rfl; exact h2.2 ha⟩
    · exact h
theorem nums_eq (l : List S36) : sortB (numsB l) = l.foldl numG [] := by
  refine asc_eq (sort_asc (numF_nodup l [] List.nodup_nil)) (numG_asc l [] List.Pairwise.nil) fun y => ?_
  unfold numsB
  rw [numG_mem, ← numF_mem]
  exact (List.mergeSort_perm (l.foldl numF []) _).mem_iff
theorem nums_le (l : List S36) (s : List Int) (h : Asc s) : (l.foldl numG s).length ≤ s.length + l.length := by
  have := asc_len (m := s ++ l.map fun f => f.f2.f2) (numG_asc l s h) fun y hy => by
    rcases (numG_mem l s y).1 hy with hy | ⟨f, hf, _, rfl⟩
    · exact List.mem_append.2 (.inl hy)
    · exact List.mem_append.2 (.inr (List.mem_map.2 ⟨f, hf, rfl⟩))
  simpa using this

theorem sGt1_found (l : List S36) (x c p a b : Int) (t : ByteArray) (hl : l.length ≤ 1048576) (r : Int × Int × List S45 × Bool) (hp0 : 0 ≤ p) (hp1 : p < 9223372036854775807)
    (hr : Ev (fun k => spec_l10Tx.l0 k l x c t (p + 1) a b) r) : ∀ (d i : Nat), i + d = l.length → Ev (fun k => spec_l10Tx.l1 k l x c t p true (i : Int) a b) r := by
  intro d i hi
  by_cases h : i < l.length
  · refine Ev.step (f := fun k => spec_l10Tx.j3 k l x c t p true (i : Int) false a b) (fun k => by simp only [spec_l10Tx.l1]; rw [if_pos (by omega)]; rfl) (Ev.step (fun k => ?_) hr)
    simp only [spec_l10Tx.j3]
    rw [if_neg (by decide), if_pos trivial, w64 (by omega) (by omega)]
  · refine Ev.step (f := fun k => spec_l10Tx.j3 k l x c t p true (i : Int) false a b) (fun k => by simp only [spec_l10Tx.l1]; rw [if_neg (by omega)]) (Ev.step (fun k => ?_) hr)
    simp only [spec_l10Tx.j3]
    rw [if_neg (by decide), if_pos trivial, w64 (by omega) (by omega)]
theorem sGt1_ev (l : List S36) (x c p a b : Int) (t : ByteArray) (hl : l.length ≤ 1048576) (hp0 : 0 ≤ p) (hp1 : p < 9223372036854775807) (hc : 0 < p → c ≠ 0) (ht : ∀ f ∈ l, f.f2.f3 = p → t.size + f.f2.f5.size ≤ 9223372036854775807) (r : Int × Int × List S45 × Bool) :
    ∀ (d i : Nat), i + d = l.length → (match metaB (l.drop i) x p (if 0 < p then c else 0) with | none => r = (a, b, [], false) | some q => Ev (fun k => spec_l10Tx.l0 k l x q.f4 (t ++ q.f5) (p + 1) a (if p = 0 then q.f1 else if q.f1 < b then q.f1 else b)) r) → Ev (fun k => spec_l10Tx.l1 k l x c t p false (i : Int) a b) r := by
  intro d
  induction d with
  | zero =>
    intro i hi hr
    rw [List.drop_eq_nil_of_le (by omega)] at hr
    have hr : r = (a, b, [], false) := hr
    refine Ev.step (f := fun k => spec_l10Tx.j3 k l x c t p false (i : Int) false a b) (fun k => by simp only [spec_l10Tx.l1]; rw [if_neg (by omega)]) (ev_some fun k => ?_)
    simp only [spec_l10Tx.j3]
    rw [hr]; rfl
  | succ d ih =>
    intro i hi hr
    have hil : i < l.length := by omega
    rw [dropG z36 hil] at hr
    have hm := getD_mem' (z := z36) hil
    unfold metaB at hr
    rw [List.find?_cons] at hr
    refine Ev.step (f := fun k => spec_l10Tx.j3 k l x c t p false (i : Int) true a b) (fun k => by simp only [spec_l10Tx.l1]; rw [if_pos (by omega)]; rfl) ?_
    have wi : wrap64 ((i : Int) + 1) = ((i + 1 : Nat) : Int) := wsucc (n := l.length) hil (by omega)
    have htf := ht _ hm
    generalize hF : l.getD i z36 = f at hr htf
    have skip : metaT x p (if 0 < p then c else 0) f = false → ∀ q : Bool, q = true → Ev (fun k => spec_l10Tx.j4 k l x c t p false (i : Int) q a b f.f2.f0 f.f2.f1 f.f2.f2 f.f2.f3 f.f2.f4 f.f2.f5) r := fun hT q hq => by
      rw [hT] at hr
      refine Ev.step (fun k => ?_) (ih (i + 1) (by omega) hr)
      simp only [spec_l10Tx.j4]
      rw [if_pos hq, wi]
    have take : metaT x p (if 0 < p then c else 0) f = true → ∀ q : Bool, q = false → Ev (fun k => spec_l10Tx.j4 k l x c t p false (i : Int) q a b f.f2.f0 f.f2.f1 f.f2.f2 f.f2.f3 f.f2.f4 f.f2.f5) r := fun hT q hq => by
      rw [hT] at hr
      have hr : Ev (fun k => spec_l10Tx.l0 k l x f.f2.f4 (t ++ f.f2.f5) (p + 1) a (if p = 0 then f.f2.f1 else if f.f2.f1 < b then f.f2.f1 else b)) r := hr
      have h3 : f.f2.f3 = p := by
        unfold metaT at hT
        simp only [Bool.and_eq_true, decide_eq_true_eq] at hT
        exact hT.2.2.1
      have hz := htf h3
      have h := sGt1_found l x f.f2.f4 p a (if p = 0 then f.f2.f1 else if f.f2.f1 < b then f.f2.f1 else b) (t ++ f.f2.f5) hl r hp0 hp1 hr (l.length - (i + 1)) (i + 1) (by omega)
      refine Ev.step (fun k => ?_) h
      simp only [spec_l10Tx.j4]
      rw [if_neg (by rw [hq]; decide), if_pos hz, wi]
      by_cases h0 : p = 0
      · rw [if_pos h0, if_pos h0]
      · rw [if_neg h0, if_neg h0]
        by_cases h1 : f.f2.f1 < b
        · rw [if_pos h1, if_pos h1]
        · rw [if_neg h1, if_neg h1]
    have st : ∀ k, spec_l10Tx.j3 (k + 1) l x c t p false (i : Int) true a b = spec_l10Tx.j4 k l x c t p false (i : Int) (!(metaT x p (if 0 < p then c else 0) f)) a b f.f2.f0 f.f2.f1 f.f2.f2 f.f2.f3 f.f2.f4 f.f2.f5 := fun k => by
      simp only [spec_l10Tx.j3]
      rw [if_pos trivial, if_pos (by omega), if_pos (by omega), rdIF_nat, hF]
      unfold metaT
      by_cases h1 : f.f2.f0 = 2
      · by_cases h2 : f.f2.f2 = x
        · by_cases h3 : f.f2.f3 = p
          · by_cases h4 : 0 < p
            · have hc0 := hc h4
              rw [if_pos h1, if_pos h2, if_pos h3, if_pos h4, if_pos h4]
              by_cases h5 : f.f2.f4 = c
              · simp [h1, h2, h3, h5, hc0]
              · have h6 : (f.f2.f4 != c) = true := bne_iff_ne.mpr h5
                simp [h1, h2, h3, h5, hc0, h6]
            · rw [if_pos h1, if_pos h2, if_pos h3, if_neg h4, if_neg h4]
              simp [h1, h2, h3]
          · rw [if_pos h1, if_pos h2, if_neg h3]; simp [h3]
        · rw [if_pos h1, if_neg h2]; simp [h2]
      · rw [if_neg h1]; simp [h1]
    by_cases hT : metaT x p (if 0 < p then c else 0) f = true
    · exact Ev.step st (take hT _ (by rw [hT]; rfl))
    · exact Ev.step st (skip (Bool.eq_false_iff.mpr hT) _ (by rw [Bool.eq_false_iff.mpr hT]; rfl))
theorem mn_lt (b q : Int) : mn b q = if q < b then q else b := rfl
theorem sGt0_ev (l : List S36) (x c a : Int) (hl : l.length ≤ 1048576) (hs : sizesN l ≤ 1048576) (hcc : c ≤ 9223372036854775807) : ∀ (d : Nat) (p b : Int) (t : ByteArray), 1 ≤ p → (p + d = c ∨ d = 0 ∧ c ≤ p) → t.size ≤ belowN l p →
    ∃ R, Ev (fun k => spec_l10Tx.l0 k l x c t p a b) R ∧ (match goB l x c d p t b with | none => R.2.2.2 = false | some (t', s') => R = (a, s', (rrT t').1, (rrT t').2)) := by
  intro d
  induction d with
  | zero =>
    intro p b t h1 h2 h4
    have hb := below_le l p
    unfold goB
    refine ⟨(a, b, (rrT t).1, (rrT t).2), ?_, rfl⟩
    refine Ev.step (f := fun k => spec_l10Tx.j1 k l x c t p false a b) (fun k => by simp only [spec_l10Tx.l0]; rw [if_neg (by omega), decide_eq_false (by omega)]) ?_
    refine Ev.step (f := fun k => (spec_ReadRecs.f k t).bind fun bt691 => some (a, b, bt691.1, bt691.2)) (fun k => by simp only [spec_l10Tx.j1]; rfl) (ev_bind (sReadRecs_ev t (by omega)) (Ev.now _))
  | succ d ih =>
    intro p b t h1 h2 h4
    have hpc : p < c := by omega
    have h3 : p < 9223372036854775807 := by omega
    have ht : ∀ f ∈ l, f.f2.f3 = p → t.size + f.f2.f5.size ≤ 9223372036854775807 := fun f hf hp => by
      have := below_step hf hp
      have := below_le l (p + 1)
      omega
    unfold goB
    have main : ∀ r, (match metaB l x p c with | none => r = (a, b, [], false) | some q => Ev (fun k => spec_l10Tx.l0 k l x q.f4 (t ++ q.f5) (p + 1) a (if p = 0 then q.f1 else if q.f1 < b then q.f1 else b)) r) → Ev (fun k => spec_l10Tx.l0 k l x c t p a b) r := fun r hr => by
      have h := sGt1_ev l x c p a b t hl (by omega) h3 (fun _ => by omega) ht r l.length 0 (by omega)
      rw [List.drop_zero, if_pos (show 0 < p by omega)] at h
      refine Ev.step (f := fun k => spec_l10Tx.j1 k l x c t p true a b) (fun k => by simp only [spec_l10Tx.l0]; rw [if_neg (by omega), decide_eq_true hpc]) (Ev.step (fun k => ?_) (h hr))
      simp only [spec_l10Tx.j1]
      rfl
    cases e : metaB l x p c with
    | none =>
      rw [e] at main
      exact ⟨(a, b, [], false), main _ rfl, rfl⟩
    | some q =>
      rw [e] at main
      obtain ⟨f, hf, rfl, hT⟩ := meta_mem e
      unfold metaT at hT
      simp only [Bool.and_eq_true, Bool.or_eq_true, decide_eq_true_eq] at hT
      have hq4 : f.f2.f4 = c := by
        rcases hT.2.2.2 with h | h
        · omega
        · exact h
      have hb := below_step hf hT.2.2.1
      obtain ⟨R, r1, r2⟩ := ih (p + 1) (mn b f.f2.f1) (t ++ f.f2.f5) (by omega) (by omega) (by rw [ByteArray.size_append]; omega)
      refine ⟨R, main R ?_, r2⟩
      show Ev (fun k => spec_l10Tx.l0 k l x f.f2.f4 (t ++ f.f2.f5) (p + 1) a (if p = 0 then f.f2.f1 else if f.f2.f1 < b then f.f2.f1 else b)) R
      rw [hq4, if_neg (by omega), ← mn_lt]
      exact r1
theorem sL10_ev (l : List S36) (x : Int) (hl : l.length ≤ 1048576) (hs : sizesN l ≤ 1048576) (hcc : ∀ f ∈ l, f.f2.f4 ≤ 9223372036854775807) : ∃ R, Ev (fun k => spec_l10Tx.f k l x) R ∧ R.2.2.2 = (txB l x).2.2.2 ∧ ((txB l x).2.2.2 = true → R = txB l x) := by
  unfold spec_l10Tx.f
  have hz : (⟨#[]⟩ : ByteArray).size = 0 := rfl
  have main : ∀ r, (match metaB l x 0 0 with | none => r = (x, 0, [], false) | some q => Ev (fun k => spec_l10Tx.l0 k l x q.f4 ((⟨#[]⟩ : ByteArray) ++ q.f5) (0 + 1) x (if (0 : Int) = 0 then q.f1 else if q.f1 < 0 then q.f1 else 0)) r) → Ev (fun k => spec_l10Tx.l0 k l x 0 ⟨#[]⟩ 0 x 0) r := fun r hr => by
    have h := sGt1_ev l x 0 0 x 0 ⟨#[]⟩ hl (by omega) (by omega) (fun h => by omega) (fun f hf hp => by
      have := below_step hf hp
      have := below_le l (0 + 1)
      omega) r l.length 0 (by omega)
    rw [List.drop_zero, if_neg (show ¬ (0 : Int) < 0 by omega)] at h
    refine Ev.step (f := fun k => spec_l10Tx.j1 k l x 0 ⟨#[]⟩ 0 true x 0) (fun k => by simp only [spec_l10Tx.l0]; rfl) (Ev.step (fun k => ?_) (h hr))
    simp only [spec_l10Tx.j1]
    rfl
  unfold txB
  cases e : metaB l x 0 0 with
  | none =>
    rw [e] at main
    exact ⟨(x, 0, [], false), main _ rfl, rfl, fun h => by cases h⟩
  | some q =>
    rw [e] at main
    obtain ⟨f, hf, rfl, hT⟩ := meta_mem e
    unfold metaT at hT
    simp only [Bool.and_eq_true, decide_eq_true_eq] at hT
    have hb : belowN l 0 + f.f2.f5.size ≤ belowN l 1 := below_step hf hT.2.2.1
    have hcf := hcc f hf
    obtain ⟨R, r1, r2⟩ := sGt0_ev l x f.f2.f4 x hl hs hcf (f.f2.f4 - 1).toNat 1 f.f2.f1 f.f2.f5 (by omega) (by omega) (by omega)
    have hR : Ev (fun k => spec_l10Tx.l0 k l x 0 ⟨#[]⟩ 0 x 0) R := main R (by
      show Ev (fun k => spec_l10Tx.l0 k l x f.f2.f4 ((⟨#[]⟩ : ByteArray) ++ f.f2.f5) (0 + 1) x (if (0 : Int) = 0 then f.f2.f1 else if f.f2.f1 < 0 then f.f2.f1 else 0)) R
      rw [if_pos rfl, show (⟨#[]⟩ : ByteArray) ++ f.f2.f5 = f.f2.f5 from ByteArray.empty_append]
      exact r1)
    refine ⟨R, hR, ?_⟩
    show R.2.2.2 = (match goB l x f.f2.f4 (f.f2.f4 - 1).toNat 1 f.f2.f5 f.f2.f1 with | none => (0, 0, [], false) | some (t, s) => (x, s, (rrT t).1, (rrT t).2)).2.2.2 ∧ ((match goB l x f.f2.f4 (f.f2.f4 - 1).toNat 1 f.f2.f5 f.f2.f1 with | none => (0, 0, [], false) | some (t, s) => (x, s, (rrT t).1, (rrT t).2)).2.2.2 = true → R = (match goB l x f.f2.f4 (f.f2.f4 - 1).toNat 1 f.f2.f5 f.f2.f1 with | none => (0, 0, [], false) | some (t, s) => (x, s, (rrT t).1, (rrT t).2)))
    cases eg : goB l x f.f2.f4 (f.f2.f4 - 1).toNat 1 f.f2.f5 f.f2.f1 with
    | none => rw [eg] at r2; exact ⟨r2, fun h => by cases h⟩
    | some z =>
      obtain ⟨t', s'⟩ := z
      rw [eg] at r2
      have r2 : R = (x, s', (rrT t').1, (rrT t').2) := r2
      rw [r2]
      exact ⟨rfl, fun _ => rfl⟩
theorem sGather_ev (l : List S36) (hl : l.length ≤ 1048576) (hs : sizesN l ≤ 1048576) (hcc : ∀ f ∈ l, f.f2.f4 ≤ 9223372036854775807) : Ev (fun k => spec_Gather.f k l) (gatherB l) := by
  unfold spec_Gather.f gatherB
  rw [nums_eq]
  have three : ∀ (L : List Int), L.length ≤ 1048576 → ∀ (d i : Nat) (acc : List S40), i + d = L.length → acc.length ≤ i → Ev (fun k => spec_Gather.l3 k l L acc (i : Int)) (acc ++ (L.drop i).flatMap (outF l)) := by
    intro L hL d
    induction d with
    | zero =>
      intro i acc hi ha
      rw [List.drop_eq_nil_of_le (by omega)]
      exact ev_some fun k => by simp only [spec_Gather.l3]; rw [if_neg (by omega)]; simp
    | succ d ih =>
      intro i acc hi ha
      have hil : i < L.length := by omega
      rw [dropG 0 hil, List.flatMap_cons]
      obtain ⟨R, r1, r2, r3⟩ := sL10_ev l (L.getD i 0) hl hs hcc
      refine Ev.step (f := fun k => (spec_l10Tx.f k l (L.getD i 0)).bind fun bt722 => if bt722.2.2.2 = true then spec_Gather.l3 k l L (acc ++ [(⟨bt722.1, bt722.2.1, bt722.2.2.1⟩ : S40)]) ((i + 1 : Nat) : Int) else spec_Gather.l3 k l L acc ((i + 1 : Nat) : Int)) (fun k => ?_) (ev_bind r1 ?_)
      · simp only [spec_Gather.l3]
        rw [if_pos (by omega), if_pos (by omega), show rd L (i : Int) = L.getD i 0 from rfl, wsucc (n := L.length) hil (by omega)]
        simp only [if_pos (show acc.length < 3518437208883 by omega)]
      · unfold outF
        by_cases h : (txB l (L.getD i 0)).2.2.2 = true
        · rw [r3 h]
          simp only [if_pos h]
          have := ih (i + 1) (acc ++ [(⟨(txB l (L.getD i 0)).1, (txB l (L.getD i 0)).2.1, (txB l (L.getD i 0)).2.2.1⟩ : S40)]) (by omega) (by simp; omega)
          rw [List.append_assoc] at this
          exact this
        · simp only [r2, if_neg h]
          exact ih (i + 1) acc (by omega) (by omega)
  have ins : ∀ (f : S33) (s : List Int) (i : Nat) (r : List S40), i < l.length → s.length ≤ 1048576 → Ev (fun k => spec_Gather.l0 k l (insB s f.f2) ((i + 1 : Nat) : Int)) r → Ev (fun k => spec_Gather.l1 k l s (i : Int) [] 0 f.f0 f.f1 f.f2 f.f3 f.f4 f.f5) r := by
    intro f s i r hil hsl hr
    have b2 : ∀ (d j : Nat), j + d = s.length → Ev (fun k => spec_Gather.l2 k l s (i : Int) ((s.filter fun y => decide (y < f.f2)) ++ [f.f2] ++ (s.take j).filter fun y => decide (y > f.f2)) (j : Int) f.f0 f.f1 f.f2 f.f3 f.f4 f.f5) r := by
      intro d
      induction d with
      | zero =>
        intro j hj
        rw [List.take_of_length_le (by omega)]
        refine Ev.step (fun k => ?_) hr
        simp only [spec_Gather.l2]
        rw [if_neg (by omega), wsucc (n := l.length) hil (by omega)]; rfl
      | succ d ih =>
        intro j hj
        have hjl : j < s.length := by omega
        have h := ih (j + 1) (by omega)
        have e : rd s (j : Int) = s[j] := by show s.getD j 0 = _; rw [List.getD_eq_getElem?_getD, List.getElem?_eq_getElem hjl]; rfl
        rw [List.take_succ_eq_append_getElem hjl, List.filter_append] at h
        have h1 := List.length_filter_le (fun y => decide (y < f.f2)) s
        have h2 := List.length_filter_le (fun y => decide (y > f.f2)) (s.take j)
        have h3 : (s.take j).length ≤ s.length := by rw [List.length_take]; omega
        by_cases hg : s[j] > f.f2
        · rw [show [s[j]].filter (fun y => decide (y > f.f2)) = [s[j]] by rw [List.filter_cons, if_pos (decide_eq_true hg)]; rfl, ← List.append_assoc] at h
          refine Ev.step (fun k => ?_) h
          simp only [spec_Gather.l2]
          rw [if_pos (by omega), if_pos (by omega), e, if_pos hg, if_pos (by simp only [List.length_append, List.length_singleton]; omega), wsucc (n := s.length) hjl (by omega)]
        · rw [show [s[j]].filter (fun y => decide (y > f.f2)) = [] by rw [List.filter_cons, if_neg (by rw [decide_eq_false hg]; decide)]; rfl, List.append_nil] at h
          refine Ev.step (fun k => ?_) h
          simp only [spec_Gather.l2]
          rw [if_pos (by omega), if_pos (by omega), e, if_neg hg, wsucc (n := s.length) hjl (by omega)]
    have b1 : ∀ (d j : Nat), j + d = s.length → Ev (fun k => spec_Gather.l1 k l s (i : Int) ((s.take j).filter fun y => decide (y < f.f2)) (j : Int) f.f0 f.f1 f.f2 f.f3 f.f4 f.f5) r := by
      intro d
      induction d with
      | zero =>
        intro j hj
        rw [List.take_of_length_le (by omega)]
        have h := b2 s.length 0 (by omega)
        rw [List.take_zero, List.filter_nil, List.append_nil] at h
        have h1 := List.length_filter_le (fun y => decide (y < f.f2)) s
        refine Ev.step (fun k => ?_) h
        simp only [spec_Gather.l1]
        rw [if_neg (by omega), if_pos (by omega)]; rfl
      | succ d ih =>
        intro j hj
        have hjl : j < s.length := by omega
        have h := ih (j + 1) (by omega)
        have e : rd s (j : Int) = s[j] := by show s.getD j 0 = _; rw [List.getD_eq_getElem?_getD, List.getElem?_eq_getElem hjl]; rfl
        rw [List.take_succ_eq_append_getElem hjl, List.filter_append] at h
        have h2 := List.length_filter_le (fun y => decide (y < f.f2)) (s.take j)
        have h3 : (s.take j).length ≤ s.length := by rw [List.length_take]; omega
        by_cases hg : s[j] < f.f2
        · rw [show [s[j]].filter (fun y => decide (y < f.f2)) = [s[j]] by rw [List.filter_cons, if_pos (decide_eq_true hg)]; rfl] at h
          refine Ev.step (fun k => ?_) h
          simp only [spec_Gather.l1]
          rw [if_pos (by omega), if_pos (by omega), e, if_pos hg, if_pos (by omega), wsucc (n := s.length) hjl (by omega)]
        · rw [show [s[j]].filter (fun y => decide (y < f.f2)) = [] by rw [List.filter_cons, if_neg (by rw [decide_eq_false hg]; decide)]; rfl, List.append_nil] at h
          refine Ev.step (fun k => ?_) h
          simp only [spec_Gather.l1]
          rw [if_pos (by omega), if_pos (by omega), e, if_neg hg, wsucc (n := s.length) hjl (by omega)]
    have h := b1 s.length 0 (by omega)
    rw [List.take_zero] at h
    exact h
  have one : ∀ (d i : Nat) (s : List Int), i + d = l.length → Asc s → s.length ≤ i → Ev (fun k => spec_Gather.l0 k l s (i : Int)) (((l.drop i).foldl numG s).flatMap (outF l)) := by
    intro d
    induction d with
    | zero =>
      intro i s hi ha hsl
      rw [List.drop_eq_nil_of_le (by omega), List.foldl_nil]
      have h := three s (by omega) s.length 0 [] (by omega) (by simp)
      rw [List.drop_zero, List.nil_append] at h
      refine Ev.step (fun k => ?_) h
      simp only [spec_Gather.l0]
      rw [if_neg (by omega)]; rfl
    | succ d ih =>
      intro i s hi ha hsl
      have hil : i < l.length := by omega
      rw [dropG z36 hil, List.foldl_cons]
      unfold numG
      by_cases h : (l.getD i z36).f2.f0 = 2
      · rw [if_pos h]
        have hlen : (insB s (l.getD i z36).f2.f2).length ≤ i + 1 := by
          have := asc_len (m := s ++ [(l.getD i z36).f2.f2]) (ins_asc (l.getD i z36).f2.f2 ha) fun y hy => by
            rcases ins_mem.1 hy with hy | rfl
            · exact List.mem_append.2 (.inl hy)
            · exact List.mem_append.2 (.inr (List.mem_singleton.2 rfl))
          rw [List.length_append, List.length_singleton] at this
          omega
        refine Ev.step (fun k => ?_) (ins (l.getD i z36).f2 s i _ hil (by omega) (ih (i + 1) _ (by omega) (ins_asc _ ha) hlen))
        simp only [spec_Gather.l0]
        rw [if_pos (by omega), if_pos (by omega), rdIF_nat, if_pos h]
      · rw [if_neg h]
        refine Ev.step (fun k => ?_) (ih (i + 1) s (by omega) ha (by omega))
        simp only [spec_Gather.l0]
        rw [if_pos (by omega), if_pos (by omega), rdIF_nat, if_neg h, wsucc (n := l.length) hil (by omega)]
  have h := one l.length 0 [] (by omega) List.Pairwise.nil (by simp)
  rw [List.drop_zero] at h
  exact h
end Go.Proofs.Ytodokejcmbjpbaa.Pu

/- Marks: what a row's places are marked with is held there again, and the count goes on alike. -/
namespace Go.Proofs.Ytodokejcmbjpbaa.Pu
open Go.RowKit Go.Proofs.Ytodokejcmbjpbaa.PK Go.Proofs.YtodokejcmbjpbaaW.PrintWords
theorem getD_set_self {α : Type} {xs : List α} {i : Nat} {x z : α} (h : i < xs.length) : (xs.set i x).getD i z = x := by
  rw [List.getD_eq_getElem?_getD, List.getElem?_set_self h]; rfl
theorem getD_set_ne {α : Type} {xs : List α} {i j : Nat} {x z : α} (h : i ≠ j) : (xs.set i x).getD j z = xs.getD j z := by
  rw [List.getD_eq_getElem?_getD, List.getD_eq_getElem?_getD, List.getElem?_set_ne h]
/-- A row that is marked place by place, and held so. -/
theorem ev_mark {α : Type} (z : α) {L : Nat → List α → Int → Int → Option (Int × List α)} {Hd : Nat → List α → Int → Int → Option Int} (E : Nat → α → Int → Option (Int × α)) (G : Nat → α → Int → Option Int) (c : Int) (P : α → Prop)
    (hL : ∀ k (xs : List α) (a : Int) (i : Nat), i < xs.length → 0 ≤ a → a + c ≤ 4611686018427387904 → L (k + 1) xs a (i : Int) = (E k (xs.getD i z) a).bind fun b => L k (xs.set i b.2) b.1 (wrap64 ((i : Int) + 1)))
    (hL0 : ∀ k (xs : List α) (a : Int) (i : Nat), xs.length ≤ i → L (k + 1) xs a (i : Int) = some (a, xs))
    (hH : ∀ k (xs : List α) (a : Int) (i : Nat), i < xs.length → 0 ≤ a → a + c ≤ 4611686018427387904 → Hd (k + 1) xs a (i : Int) = (G k (xs.getD i z) a).bind fun t => if t < 0 then some (-1) else Hd k xs t (wrap64 ((i : Int) + 1)))
    (hH0 : ∀ k (xs : List α) (a : Int) (i : Nat), xs.length ≤ i → Hd (k + 1) xs a (i : Int) = some a)
    (hc : 0 ≤ c)
    (hE : ∀ x a, P x → 0 ≤ a → a + c ≤ 4611686018427387904 → ∃ a' x', Ev (fun k => E k x a) (a', x') ∧ Ev (fun k => G k x' a) a' ∧ a ≤ a' ∧ a' ≤ a + c) :
    ∀ (d i : Nat) (xs : List α) (a : Int), i + d = xs.length → xs.length ≤ 9223372036854775807 → (∀ j, i ≤ j → j < xs.length → P (xs.getD j z)) → 0 ≤ a → a + d * c ≤ 4611686018427387904 →
      ∃ a' xs', xs'.length = xs.length ∧ (∀ j, j < i → xs'.getD j z = xs.getD j z) ∧ Ev (fun k => L k xs a (i : Int)) (a', xs') ∧ Ev (fun k => Hd k xs' a (i : Int)) a' ∧ a ≤ a' ∧ a' ≤ a + d * c := by
  intro d
  induction d with
  | zero =>
    intro i xs a hi hn hP ha hM
    exact ⟨a, xs, rfl, fun _ _ => rfl, ev_some fun k => hL0 k xs a i (by omega), ev_some fun k => hH0 k xs a i (by omega), Int.le_refl _, by simp⟩
  | succ d ih =>
    intro i xs a hi hn hP ha hM
    have hdc : 0 ≤ (d : Int) * c := Int.mul_nonneg (by omega) hc
    have hds : ((d + 1 : Nat) : Int) * c = (d : Int) * c + c := by rw [Int.natCast_add, Int.add_mul]; simp
    rw [hds] at hM
    obtain ⟨a1, x1, hE1, hG1, h1, h2⟩ := hE (xs.getD i z) a (hP i (Nat.le_refl _) (by omega)) ha (by omega)
    have hlen : (xs.set i x1).length = xs.length := List.length_set
    obtain ⟨a', xs', hl', hb', hL', hH', h3, h4⟩ := ih (i + 1) (xs.set i x1) a1 (by rw [hlen]; omega) (by rw [hlen]; exact hn) (fun j hj hj2 => by
      rw [hlen] at hj2
      rw [getD_set_ne (by omega)]
      exact hP j (by omega) hj2) (by omega) (by omega)
    have hxi : xs'.getD i z = x1 := by rw [hb' i (by omega), getD_set_self (by omega)]
    refine ⟨a', xs', by rw [hl', hlen], fun j hj => by rw [hb' j (by omega), getD_set_ne (by omega)], ?_, ?_, by omega, by rw [hds]; omega⟩
    · refine Ev.step (fun k => hL k xs a i (by omega) ha (by omega)) (ev_bind hE1 ?_)
      simp only [wsucc (n := xs.length) (i := i) (by omega) hn]
      exact hL'
    · refine Ev.step (fun k => hH k xs' a i (by rw [hl', hlen]; omega) ha (by omega)) ?_
      rw [hxi]
      refine ev_bind hG1 ?_
      simp only [if_neg (show ¬ a1 < 0 by omega), wsucc (n := xs.length) (i := i) (by omega) hn]
      exact hH'

/-- A row that is marked place by place. -/
theorem ev_mark1 {α : Type} (z : α) {L : Nat → List α → Int → Int → Option (Int × List α)} (E : Nat → α → Int → Option (Int × α)) (c : Int)
    (hL : ∀ k (xs : List α) (a : Int) (i : Nat), i < xs.length → 0 ≤ a → a + c ≤ 4611686018427387904 → L (k + 1) xs a (i : Int) = (E k (xs.getD i z) a).bind fun b => L k (xs.set i b.2) b.1 (wrap64 ((i : Int) + 1)))
    (hL0 : ∀ k (xs : List α) (a : Int) (i : Nat), xs.length ≤ i → L (k + 1) xs a (i : Int) = some (a, xs)) (hc : 0 ≤ c)
    (hE : ∀ x a, 0 ≤ a → a + c ≤ 4611686018427387904 → ∃ a' x', Ev (fun k => E k x a) (a', x') ∧ a ≤ a' ∧ a' ≤ a + c) :
    ∀ (d i : Nat) (xs : List α) (a : Int), i + d = xs.length → xs.length ≤ 9223372036854775807 → 0 ≤ a → a + d * c ≤ 4611686018427387904 →
      ∃ a' xs', Ev (fun k => L k xs a (i : Int)) (a', xs') ∧ a ≤ a' ∧ a' ≤ a + d * c := by
  intro d
  induction d with
  | zero =>
    intro i xs a hi hn ha hM
    exact ⟨a, xs, ev_some fun k => hL0 k xs a i (by omega), Int.le_refl _, by simp⟩
  | succ d ih =>
    intro i xs a hi hn ha hM
    have hdc : 0 ≤ (d : Int) * c := Int.mul_nonneg (by omega) hc
    have hds : ((d + 1 : Nat) : Int) * c = (d : Int) * c + c := by rw [Int.natCast_add, Int.add_mul]; simp
    rw [hds] at hM
    obtain ⟨a1, x1, hE1, h1, h2⟩ := hE (xs.getD i z) a ha (by omega)
    have hlen : (xs.set i x1).length = xs.length := List.length_set
    obtain ⟨a', xs', hL', h3, h4⟩ := ih (i + 1) (xs.set i x1) a1 (by rw [hlen]; omega) (by rw [hlen]; exact hn) (by omega) (by omega)
    refine ⟨a', xs', ?_, by omega, by rw [hds]; omega⟩
    refine Ev.step (fun k => hL k xs a i (by omega) ha (by omega)) (ev_bind hE1 ?_)
    simp only [wsucc (n := xs.length) (i := i) (by omega) hn]
    exact hL'

end Go.Proofs.Ytodokejcmbjpbaa.Pu

/- A mark's text. -/
namespace Go.Proofs.Ytodokejcmbjpbaa.Pu
open Go.RowKit Go.Proofs.Ytodokejcmbjpbaa.PK Go.Proofs.YtodokejcmbjpbaaW.PrintWords
theorem strOne (n : Int) : (strOfNums [n]).size = 1 := by simp [strOfNums, ByteArray.size]
end Go.Proofs.Ytodokejcmbjpbaa.Pu

/- Rows of pages found: sizes, copies, comparison, marks; and what bounds what is gathered of them. -/
namespace Go.Proofs.Ytodokejcmbjpbaa.Pu
open Go.RowKit Go.Proofs.Ytodokejcmbjpbaa.PK Go.Proofs.YtodokejcmbjpbaaW.PrintWords
theorem rdLF_nat (l : List S73) (i : Nat) : rd_T73 l (i : Int) = l.getD i z73 := rfl
def toFd (x : S73) : S36 := ⟨x.f0, x.f1, ⟨x.f2.f0, x.f2.f1, x.f2.f2, x.f2.f3, x.f2.f4, x.f2.f5⟩⟩
def sizesL (l : List S73) : Nat := (l.map fun f => f.f2.f5.size).sum
theorem sizes_to (l : List S73) : sizesN (l.map toFd) = sizesL l := by
  unfold sizesN sizesL
  rw [List.map_map]; rfl
/-- Bounds of what is gathered. -/
theorem rr_len2 (t : ByteArray) : ∀ (d i : Nat) (acc : List S45), i ≤ t.size → (rrB t d i acc).1.length ≤ acc.length + (t.size - i)
  | 0, i, acc, _ => by show acc.length ≤ _; omega
  | d + 1, i, acc, hi => by
    unfold rrB
    by_cases h : i < t.size
    · rw [if_pos h]
      by_cases h2 : (recMay t i && recOk (recAt t i).f0 (recAt t i).f1 (recAt t i).f2 (recAt t i).f3) = true
      · rw [if_pos h2]
        rw [Bool.and_eq_true] at h2
        have hm := h2.1
        unfold recMay at hm
        rw [Bool.and_eq_true] at hm
        have A := rvB_range t ((i + 1 : Nat) : Int)
        have C := rvB_range t (rvB t ((i + 1 : Nat) : Int)).2.1
        rcases A with ⟨a1, _⟩ | ⟨a1, a2, a3, a4, a5, a6⟩
        · rw [a1] at hm; exact absurd hm.1 (by decide)
        rcases C with ⟨c1, _⟩ | ⟨c1, c2, c3, c4, c5, c6⟩
        · rw [c1] at hm; exact absurd hm.2 (by decide)
        have := rr_len2 t d (recEnd t i).toNat (acc ++ [recAt t i]) (by unfold recEnd; omega)
        have e : i < (recEnd t i).toNat ∧ (recEnd t i).toNat ≤ t.size := by unfold recEnd; omega
        simp only [List.length_append, List.length_cons, List.length_nil] at this
        omega
      · rw [if_neg h2]; exact Nat.zero_le _
    · rw [if_neg h]; show acc.length ≤ _; omega
theorem go_size {l : List S36} {x c : Int} : ∀ (d : Nat) (p : Int) (t : ByteArray) (s : Int) {t' : ByteArray} {s' : Int}, goB l x c d p t s = some (t', s') → t.size ≤ belowN l p → t'.size ≤ sizesN l
  | 0, p, t, s, t', s', h, ht => by
    unfold goB at h
    injection h with h
    injection h with h1 h2
    have := below_le l p
    rw [← h1]; omega
  | d + 1, p, t, s, t', s', h, ht => by
    unfold goB at h
    cases e : metaB l x p c with
    | none => rw [e] at h; cases h
    | some q =>
      rw [e] at h
      obtain ⟨f, hf, rfl, hT⟩ := meta_mem e
      unfold metaT at hT
      simp only [Bool.and_eq_true, decide_eq_true_eq] at hT
      have hb := below_step hf hT.2.2.1
      exact go_size d (p + 1) (t ++ f.f2.f5) (mn s f.f2.f1) h (by rw [ByteArray.size_append]; omega)
theorem tx_recs (l : List S36) (x : Int) : (txB l x).2.2.1.length ≤ sizesN l := by
  unfold txB
  cases e : metaB l x 0 0 with
  | none => exact Nat.zero_le _
  | some q =>
    obtain ⟨f, hf, rfl, hT⟩ := meta_mem e
    unfold metaT at hT
    simp only [Bool.and_eq_true, decide_eq_true_eq] at hT
    have hb : belowN l 0 + f.f2.f5.size ≤ belowN l 1 := below_step hf hT.2.2.1
    show (match goB l x f.f2.f4 (f.f2.f4 - 1).toNat 1 f.f2.f5 f.f2.f1 with | none => (0, 0, [], false) | some (t, s) => (x, s, (rrT t).1, (rrT t).2) : Int × Int × List S45 × Bool).2.2.1.length ≤ _
    cases e2 : goB l x f.f2.f4 (f.f2.f4 - 1).toNat 1 f.f2.f5 f.f2.f1 with
    | none => exact Nat.zero_le _
    | some z =>
      obtain ⟨t', s'⟩ := z
      have h1 := go_size _ _ _ _ e2 (by omega)
      have h2 := rr_len2 t' (t'.size + 1) 0 [] (Nat.zero_le _)
      show (rrT t').1.length ≤ _
      unfold rrT
      simp only [List.length_nil] at h2
      omega
theorem out_mem {l : List S36} {n : Int} {y : S40} (h : y ∈ outF l n) : y = ⟨(txB l n).1, (txB l n).2.1, (txB l n).2.2.1⟩ := by
  unfold outF at h
  split at h
  · exact List.mem_singleton.1 h
  · cases h
theorem flat_len (l : List S36) : ∀ s : List Int, (s.flatMap (outF l)).length ≤ s.length
  | [] => Nat.le_refl _
  | n :: s => by
    rw [List.flatMap_cons, List.length_append]
    have := flat_len l s
    have h : (outF l n).length ≤ 1 := by unfold outF; split <;> simp
    simp only [List.length_cons]
    omega
theorem gather_le (l : List S36) : (gatherB l).length ≤ l.length ∧ ∀ y ∈ gatherB l, y.f2.length ≤ sizesN l := by
  constructor
  · unfold gatherB
    have h1 := flat_len l (sortB (numsB l))
    rw [nums_eq] at h1 ⊢
    have h2 := nums_le l [] List.Pairwise.nil
    simp only [List.length_nil] at h2
    omega
  · intro y hy
    unfold gatherB at hy
    obtain ⟨n, _, hn⟩ := List.mem_flatMap.1 hy
    rw [out_mem hn]
    exact tx_recs l n
end Go.Proofs.Ytodokejcmbjpbaa.Pu

/- A row of records as data. -/
namespace Go.Proofs.Ytodokejcmbjpbaa.Pu
open Go.RowKit Go.Proofs.Ytodokejcmbjpbaa.PK Go.Proofs.YtodokejcmbjpbaaW.PrintWords
theorem rdIR_nat (l : List S45) (i : Nat) : rd_T45 l (i : Int) = l.getD i z45 := rfl
end Go.Proofs.Ytodokejcmbjpbaa.Pu

/- Marks of a row of records, and a row of records held against itself. -/
namespace Go.Proofs.Ytodokejcmbjpbaa.Pu
open Go.RowKit Go.Proofs.Ytodokejcmbjpbaa.PK Go.Proofs.YtodokejcmbjpbaaW.PrintWords
end Go.Proofs.Ytodokejcmbjpbaa.Pu

/- Transactions as data: what a law on a row of them begins with. -/
namespace Go.Proofs.Ytodokejcmbjpbaa.Pu
open Go.RowKit Go.Proofs.Ytodokejcmbjpbaa.PK Go.Proofs.YtodokejcmbjpbaaW.PrintWords
theorem rdIT_nat (l : List S40) (i : Nat) : rd_T40 l (i : Int) = l.getD i z40 := rfl
end Go.Proofs.Ytodokejcmbjpbaa.Pu

/- The transactions since the last base; the program's and the reference's SinceBase tell them. -/
namespace Go.Proofs.Ytodokejcmbjpbaa.Pu
open Go.RowKit Go.Proofs.Ytodokejcmbjpbaa.PK Go.Proofs.YtodokejcmbjpbaaW.PrintWords
def isBaseB (x : S40) : Bool := decide (0 < x.f2.length) && ((x.f2.getD 0 z45).f0 == 1)
def lastB (l : List S40) : Nat → Nat → Nat → Nat
  | 0, _, at_ => at_
  | d + 1, i, at_ => lastB l d (i + 1) (if isBaseB (l.getD i z40) = true then i else at_)
def sinceB (l : List S40) : List S40 := l.drop (lastB l l.length 0 0)
theorem sinceB_le (l : List S40) : (sinceB l).length ≤ l.length := by unfold sinceB; rw [List.length_drop]; omega
theorem sinceB_mem (l : List S40) : ∀ x ∈ sinceB l, x ∈ l := fun x h => List.mem_of_mem_drop h
theorem drop_getT {α : Type} {l : List α} {i : Nat} (z : α) (h : i < l.length) : l.drop i = l.getD i z :: l.drop (i + 1) := by
  rw [List.drop_eq_getElem_cons h, List.getD_eq_getElem?_getD, List.getElem?_eq_getElem h]; rfl
theorem isBase_eq (x : S40) : impl_isBase.f x.f0 x.f1 x.f2 = some (isBaseB x) := by
  unfold impl_isBase.f isBaseB
  by_cases h : 0 < x.f2.length
  · rw [if_pos (by omega), if_pos (by omega), decide_eq_true h, Bool.true_and]; rfl
  · rw [if_neg (by omega), decide_eq_false h, Bool.false_and]
theorem iSince_ev (l : List S40) (hn : l.length ≤ 1048576) (hk : ∀ x ∈ l, x.f2.length ≤ 1048576) : Ev (fun k => impl_SinceBase.f k l) (sinceB l) := by
  have copy : ∀ (y : List S40), (∀ x ∈ y, x ∈ l) → y.length ≤ l.length → ∀ (d i : Nat) (acc : List S40), i + d = y.length → acc.length = i → Ev (fun k => impl_SinceBase.l1 k acc y (y.length : Int) (i : Int)) (acc ++ y.drop i) := by
    intro y hy hyl d
    induction d with
    | zero => intro i acc hi hl; exact ev_some fun k => by simp only [impl_SinceBase.l1]; rw [if_neg (by omega), List.drop_eq_nil_of_le (by omega), List.append_nil]
    | succ d ih =>
      intro i acc hi hl
      have hm := hk _ (hy _ (getD_mem' (z := z40) (show i < y.length by omega)))
      have h := ih (i + 1) (acc ++ [y.getD i z40]) (by omega) (by rw [List.length_append, hl]; rfl)
      rw [List.append_assoc, List.singleton_append] at h
      rw [drop_getT z40 (by omega)]
      refine Ev.step (fun k => ?_) h
      simp only [impl_SinceBase.l1]
      rw [if_pos (by omega), if_pos (by omega), if_pos (by omega), rdIT_nat, if_pos (by simp only [List.length_nil]; omega), if_pos (by omega), wsucc (n := y.length) (by omega) (by omega), List.nil_append]
  have main : ∀ (d i at_ : Nat), i + d = l.length → at_ ≤ l.length → Ev (fun k => impl_SinceBase.l0 k l (at_ : Int) l (l.length : Int) (i : Int)) (l.drop (lastB l d i at_)) := by
    intro d
    induction d with
    | zero =>
      intro i at_ hi ha
      have h := copy (l.drop at_) (fun x hx => List.mem_of_mem_drop hx) (by rw [List.length_drop]; omega) (l.drop at_).length 0 [] (by omega) rfl
      refine Ev.step (fun k => ?_) h
      simp only [impl_SinceBase.l0]
      rw [if_neg (by omega), if_pos (by omega), if_pos (by omega)]
      rfl
    | succ d ih =>
      intro i at_ hi ha
      have h := ih (i + 1) (if isBaseB (l.getD i z40) = true then i else at_) (by omega) (by split <;> omega)
      refine Ev.step (fun k => ?_) h
      simp only [impl_SinceBase.l0]
      rw [if_pos (by omega), if_pos (by omega), if_pos (by omega), rdIT_nat, isBase_eq, wsucc (n := l.length) (by omega) (by omega)]
      simp only [Option.bind_some]
      by_cases hb : isBaseB (l.getD i z40) = true
      · rw [if_pos hb, if_pos hb]
      · rw [if_neg hb, if_neg hb]
  exact main l.length 0 0 (by omega) (by omega)
end Go.Proofs.Ytodokejcmbjpbaa.Pu

/- FnGathers: what is gathered of drawn pages ascends; what is since a base begins with it. -/
namespace Go.Proofs.Ytodokejcmbjpbaa.Pure
open Go.RowKit Go.Proofs.Ytodokejcmbjpbaa.PK Go.Proofs.YtodokejcmbjpbaaW.PrintWords Go.Proofs.Ytodokejcmbjpbaa.Pu
theorem sameR_ev (l : List S45) (hn : l.length ≤ 9223372036854775807) : Ev (fun k => laws_sameRecs.f k l l) true := by
  unfold laws_sameRecs.f
  simp only [if_true]
  have main : ∀ (d i : Nat), i + d = l.length → Ev (fun k => laws_sameRecs.l0 k l l (i : Int)) true := by
    intro d
    induction d with
    | zero => intro i hi; exact ev_some fun k => by simp only [laws_sameRecs.l0]; rw [if_neg (by omega)]
    | succ d ih =>
      intro i hi
      refine Ev.step (fun k => ?_) (ih (i + 1) (by omega))
      simp only [laws_sameRecs.l0, beq_self_eq_true, Bool.not_true, Bool.or_false, Bool.false_eq_true, if_false]
      rw [if_pos (by omega), if_pos (by omega), if_pos (by omega), wsucc (n := l.length) (by omega) hn]
  exact main l.length 0 (by omega)
theorem tx_num {l : List S36} {x : Int} (h : (txB l x).2.2.2 = true) : (txB l x).1 = x := by
  unfold txB at h ⊢
  cases e : metaB l x 0 0 with
  | none => simp [e] at h
  | some q =>
    simp only [e] at h ⊢
    cases e2 : goB l x q.f4 (q.f4 - 1).toNat 1 q.f5 q.f1 with
    | none => rw [e2] at h; exact Bool.noConfusion h
    | some y => rfl
theorem out_num {l : List S36} {n : Int} {y : S40} (h : y ∈ outF l n) : y.f0 = n := by
  unfold outF at h
  by_cases hb : (txB l n).2.2.2 = true
  · rw [if_pos hb] at h
    rw [List.mem_singleton.1 h]
    exact tx_num hb
  · rw [if_neg hb] at h; cases h
theorem gather_asc (l : List S36) : (gatherB l).Pairwise fun a b => a.f0 < b.f0 := by
  unfold gatherB numsB
  have h := sort_asc (numF_nodup l [] List.nodup_nil)
  unfold Asc at h
  generalize sortB (l.foldl numF []) = s at h
  induction s with
  | nil => simp
  | cons n s ih =>
    obtain ⟨h1, h2⟩ := List.pairwise_cons.1 h
    rw [List.flatMap_cons, List.pairwise_append]
    refine ⟨?_, ih h2, fun a ha b hb => ?_⟩
    · unfold outF
      by_cases hb : (txB l n).2.2.2 = true
      · rw [if_pos hb]; exact List.pairwise_singleton _ _
      · rw [if_neg hb]; exact List.Pairwise.nil
    · obtain ⟨m, hm, hb⟩ := List.mem_flatMap.1 hb
      rw [out_num ha, out_num hb]
      exact h1 m hm
theorem getD_at {α : Type} {l : List α} {i : Nat} (z : α) (h : i < l.length) : l.getD i z = l[i] := by
  rw [List.getD_eq_getElem?_getD, List.getElem?_eq_getElem h]; rfl
theorem asc_at {l : List S40} (h : l.Pairwise fun a b => a.f0 < b.f0) {i : Nat} (hi : i + 1 < l.length) : (l.getD i z40).f0 < (l.getD (i + 1) z40).f0 := by
  have := List.pairwise_iff_getElem.1 h i (i + 1) (by omega) hi (by omega)
  rw [getD_at _ (by omega), getD_at _ hi]
  exact this
theorem last_is (l : List S40) : ∀ (d i a : Nat), lastB l d i a = a ∨ (i ≤ lastB l d i a ∧ lastB l d i a < i + d ∧ isBaseB (l.getD (lastB l d i a) z40) = true) := by
  intro d
  induction d with
  | zero => intro i a; exact .inl rfl
  | succ d ih =>
    intro i a
    unfold lastB
    by_cases hb : isBaseB (l.getD i z40) = true
    · rw [if_pos hb]
      rcases ih (i + 1) i with e | ⟨e1, e2, e3⟩
      · rw [e]; exact .inr ⟨Nat.le_refl _, by omega, hb⟩
      · exact .inr ⟨by omega, by omega, e3⟩
    · rw [if_neg hb]
      rcases ih (i + 1) a with e | ⟨e1, e2, e3⟩
      · exact .inl e
      · exact .inr ⟨by omega, by omega, e3⟩
theorem last_no (l : List S40) : ∀ (d i a j : Nat), i ≤ j → j < i + d → lastB l d i a < j → isBaseB (l.getD j z40) = false := by
  intro d
  induction d with
  | zero => intro i a j h1 h2 h3; omega
  | succ d ih =>
    intro i a j h1 h2 h3
    unfold lastB at h3
    by_cases e : j = i
    · subst e
      by_cases hb : isBaseB (l.getD j z40) = true
      · rw [if_pos hb] at h3
        rcases last_is l d (j + 1) j with e | ⟨e1, e2, e3⟩ <;> omega
      · exact Bool.eq_false_iff.2 hb
    · exact ih (i + 1) _ j (by omega) (by omega) h3
theorem since_at {l : List S40} (fr i : Nat) : (l.drop fr).getD i z40 = l.getD (fr + i) z40 := by
  rw [List.getD_eq_getElem?_getD, List.getD_eq_getElem?_getD, List.getElem?_drop]
theorem rdGT_nat (l : List S40) (i : Nat) : rd_T40 l (i : Int) = l.getD i z40 := rfl
theorem gathers1 (T : List S40) (hn : T.length ≤ 1048576) (hk : ∀ x ∈ T, x.f2.length ≤ 1048576) (fr : Nat) (hfr : fr ≤ T.length)
    (hbase : fr = 0 ∨ (fr < T.length ∧ isBaseB (T.getD fr z40) = true)) (hno : ∀ j, fr < j → j < T.length → isBaseB (T.getD j z40) = false) :
    ∀ (d i : Nat), i + d = (T.drop fr).length → Ev (fun k => laws_FnGathers.l1 k T (T.drop fr) (i : Int)) true := by
  have hZ : (T.drop fr).length = T.length - fr := List.length_drop
  intro d
  induction d with
  | zero =>
    intro i hi
    refine ev_some fun k => ?_
    simp only [laws_FnGathers.l1]
    rw [if_neg (by omega)]
    rcases hbase with h | ⟨h, hb⟩
    · rw [if_pos (by omega)]
    · by_cases h0 : fr = 0
      · rw [if_pos (by omega)]
      · have hR : rd_T40 (T.drop fr) 0 = T.getD fr z40 := (rdGT_nat (T.drop fr) 0).trans ((since_at fr 0).trans (by rw [Nat.add_zero]))
        unfold isBaseB at hb
        rw [Bool.and_eq_true, decide_eq_true_eq] at hb
        rw [if_neg (by omega), if_pos (by omega), hR, if_pos (by omega)]
        exact congrArg some hb.2
  | succ d ih =>
    intro i hi
    have hR1 : rd_T40 (T.drop fr) (i : Int) = T.getD (fr + i) z40 := (rdGT_nat _ i).trans (since_at fr i)
    have hw : wrap64 ((wrap64 ((T.length : Int) - ((T.drop fr).length : Int))) + (i : Int)) = ((fr + i : Nat) : Int) := by
      rw [w64 (x := (T.length : Int) - ((T.drop fr).length : Int)) (by omega) (by omega), w64 (by omega) (by omega)]; omega
    have hR2 : rd_T40 T ((fr + i : Nat) : Int) = T.getD (fr + i) z40 := rdGT_nat T _
    have hx := hk _ (getD_mem' (z := z40) (show fr + i < T.length by omega))
    have hnb : 0 < i → isBaseB (T.getD (fr + i) z40) = false := fun h => hno (fr + i) (by omega) (by omega)
    have hih := ih (i + 1) (by omega)
    revert hR1 hR2 hx hnb
    generalize T.getD (fr + i) z40 = x
    intro hR1 hR2 hx hnb
    apply ev_step_bind (sameR_ev x.f2 (by omega))
    case hL =>
      intro k
      simp only [laws_FnGathers.l1]
      rw [if_pos (by omega), hw, if_pos (by omega), if_pos (by omega), if_pos (by omega), hR1, hR2, if_pos rfl, wsucc (n := T.length) (by omega) (by omega)]
    simp only [if_true]
    by_cases h0 : (i : Int) > 0
    · simp only [if_pos h0]
      have hb := hnb (by omega)
      unfold isBaseB at hb
      by_cases hl : (x.f2.length : Int) > 0
      · simp only [if_pos hl]
        rw [decide_eq_true (by omega), Bool.true_and] at hb
        have hne : ¬ (rd_T45 x.f2 0).f0 = 1 := by
          intro e
          have : ((x.f2.getD 0 z45).f0 == 1) = true := by rw [beq_iff_eq]; exact e
          rw [this] at hb; cases hb
        simp only [if_neg hne]
        exact hih
      · simp only [if_neg hl]; exact hih
    · simp only [if_neg h0]; exact hih
theorem gathers0 (T : List S40) (hn : T.length ≤ 1048576) (hk : ∀ x ∈ T, x.f2.length ≤ 1048576) (ha : T.Pairwise fun a b => a.f0 < b.f0) (Z : List S40)
    (h1 : Ev (fun k => laws_FnGathers.l1 k T Z 0) true) : ∀ (d i : Nat), i + d = T.length → Ev (fun k => laws_FnGathers.l0 k T T Z (i : Int)) true := by
  intro d
  induction d with
  | zero =>
    intro i hi
    refine Ev.step (fun k => ?_) h1
    simp only [laws_FnGathers.l0]
    rw [if_neg (by omega)]
  | succ d ih =>
    intro i hi
    have hx := hk _ (getD_mem' (z := z40) (show i < T.length by omega))
    have hih := ih (i + 1) (by omega)
    apply ev_step_bind (sameR_ev (T.getD i z40).f2 (by omega))
    case hL =>
      intro k
      simp only [laws_FnGathers.l0]
      rw [if_pos (by omega), if_pos (by omega), if_pos (by omega), rdGT_nat, if_pos trivial, wsucc (i := i) (n := T.length) (by omega) (by omega)]
    simp only [if_true]
    by_cases h0 : (i : Int) > 0
    · simp only [if_pos h0]
      obtain ⟨m, rfl⟩ : ∃ m, i = m + 1 := ⟨i - 1, by omega⟩
      have hw : wrap64 (((m + 1 : Nat) : Int) - 1) = (m : Int) := by rw [w64 (by omega) (by omega)]; omega
      have hlt := asc_at ha (i := m) (by omega)
      have hc0 : (0 : Int) ≤ (m : Int) := by omega
      have hc1 : (m : Int) < (T.length : Int) := by omega
      have hge : ¬ (rd_T40 T (m : Int)).f0 ≥ (T.getD (m + 1) z40).f0 := by rw [rdGT_nat]; omega
      simp only [hw, if_pos hc0, if_pos hc1, if_neg hge]
      exact hih
    · simp only [if_neg h0]; exact hih
theorem FnGathers : laws_FnGathers.Pure := by
  intro l hl _ hx
  refine Ev.rounds (g := fun k => laws_FnGathers.f k l) ?_
  unfold maxLen at hl
  unfold laws_FnGathers.f laws_big.f
  refine ev_bind (Ev.now (decide ((l.length : Int) > 1048576))) ?_
  by_cases hbig : (l.length : Int) > 1048576
  · simp only [decide_eq_true hbig, if_true]; exact Ev.now _
  · simp only [decide_eq_false hbig, Bool.false_eq_true, if_false]
    obtain ⟨L, hL, f1, f2, f3⟩ := gather_draw l (by omega)
    have hc : ∀ f ∈ L, f.f2.f4 ≤ 9223372036854775807 := fun f hf => by have := f3 f hf; omega
    have hi := iGather_ev L (by omega) (by omega) hc
    have hs := sGather_ev L (by omega) (by omega) hc
    obtain ⟨g1, g2⟩ := gather_le L
    have ha := gather_asc L
    generalize gatherB L = T at hi hs g1 g2 ha
    have hk : ∀ x ∈ T, x.f2.length ≤ 1048576 := fun x h => by have := g2 x h; omega
    have hn : T.length ≤ 1048576 := by omega
    have hsn := iSince_ev T hn hk
    refine ev_bind hL (ev_bind hi (ev_bind hs (ev_bind hsn ?_)))
    simp only [if_true]
    have hle := sinceB_le T
    rw [decide_eq_false (by omega)]
    have hfr : lastB T T.length 0 0 ≤ T.length := by rcases last_is T T.length 0 0 with e | ⟨_, e, _⟩ <;> omega
    have h1 := gathers1 T hn hk (lastB T T.length 0 0) hfr (by
      rcases last_is T T.length 0 0 with e | ⟨_, e, e3⟩
      · exact .inl e
      · exact .inr ⟨by omega, e3⟩) (fun j hj hj2 => last_no T T.length 0 0 j (Nat.zero_le _) (by omega) hj) (T.drop (lastB T T.length 0 0)).length 0 (by omega)
    have h0 := gathers0 T hn hk ha (sinceB T) h1 T.length 0 (by omega)
    refine Ev.step (fun k => ?_) h0
    simp only [laws_FnGathers.j0, Bool.false_eq_true, if_false]
    rfl
end Go.Proofs.Ytodokejcmbjpbaa.Pure

/- Functions of the translation as plain Lean functions, and for each that its call comes to just what its Lean function answers; its conditions stand in each theorem. Written by a program of this session. -/
namespace Go.Proofs.Ytodokejcmbjpbaa.fnGathers
open Go.ChangeShapes Go.WideShapes Go.ChangeAt Go.RowKit
open Go.ChangeMaps (open_string shut_string)
theorem own : ownKnob Try.prog.godebug = none := by kernel_rfl
theorem laidOut : laidOutB Try.prog = true := by kernel_rfl
def IsRow (k : IntKind) (w : World) (a : Option Addr) (len cap : Nat) (zs : List Int) : Prop :=
  (a = none ∧ len = 0 ∧ cap = 0 ∧ zs = []) ∨
  ∃ x, a = some x ∧ len ≤ cap ∧ cap ≤ maxLen ∧ zs.length = cap ∧ (∀ i, i < zs.length → w.cell? (x.add i) = some (.int k (zs.getD i 0))) ∧ ∀ n ∈ zs, (Lit.int k n).wf = true
set_option maxRecDepth 100000 in
theorem lifted (os : Os) (started : os.Started) (H : Type) (enc : TypeId × Value → H) :
    ReturnsInHanded {} Try.checked os 5 .any (Rows.fnGathersSpec.pre6 enc Try.prog Try.f5 Rows.fnGathersRow.domain false) (Rows.fnGathersSpec.post enc Try.prog Try.f5 false true false false) := by
  refine returnsInHanded_of_change_sized (C := Try.checked) own started (by kernel_rfl) Try.func5
    (ChangeSpec.witness6 (enc := enc) (C := Try.checked) false ⟨#[], #[.slice none 0 0], []⟩ 8 (by kernel_rfl) (by kernel_rfl) (by kernel_rfl) (by kernel_rfl)) ?_
  intro W base args ds gs before hval0 hW hcnd hsz0 _
  have hsz : (DataW.weightsEach Try.prog (Try.f5.params.toList ++ Rows.fnGathersSpec.plain.varTypes Try.prog) (ds ++ gs)).all (· ≤ reachBytes) = true := hsz0
  have hval : ∀ (j : Nat) t v, Try.f5.params[j]? = some t → args[j]? = some v → Value.okWide Try.prog W .any base t v := hval0
  have hW' := hW
  obtain ⟨p, q, hA0, hV, rfl, hfz, hnd⟩ := hW
  have hA : DataW.TrodAll enc Try.prog W 0 (fun _ => true) true Try.f5.params.toList args.toList ds p := hA0
  rw [Try.params5] at hA hval hsz
  obtain ⟨v0, vs0, d0, ds0, p0, q0, hargs, rfl, rfl, h0, r0⟩ := trodAll_cons hA
  obtain ⟨rfl, rfl, rfl⟩ := trodAll_nil r0
  obtain rfl : args = #[v0] := by cases args; simp_all
  obtain ⟨rfl, rfl⟩ := trodVars_none hV
  obtain ⟨a0, len0, cap0, rfl⟩ := okWide_slice Try.underlying22 (hval 0 22 v0 rfl rfl)
  have k0 := h0
  have lt0 : ∀ x ∈ p0, x.block < W.heap.size := by obtain ⟨m, hm⟩ := k0; exact DataW.trod_lt m _ _ _ hm
  obtain ⟨z0, w0⟩ : ∃ zs, IsRow .u8 W a0 len0 cap0 zs := by
    obtain ⟨fuel, hf⟩ := h0
    rcases open_ints Try.underlying22 Try.underlying5 (by kernel_rfl) hf with ⟨hcs, _⟩ | ⟨x, l, c, zs, hcs, _, hl, hm, hz, _, hcell, hwz⟩
    · simp [Value.cells] at hcs
      obtain ⟨rfl, rfl, rfl⟩ := hcs
      exact ⟨[], .inl ⟨rfl, rfl, rfl, rfl⟩⟩
    · simp [Value.cells] at hcs
      obtain ⟨rfl, rfl, rfl⟩ := hcs
      exact ⟨zs, .inr ⟨_, rfl, hl, hm, by simpa using hz, hcell, hwz⟩⟩
  have y0 : len0 * 1 ≤ 140737488351232 := Go.Proofs.YtodokejcmbjpbaaW.PrintWords.sized_ints hsz (j := 0) (t := 22) rfl rfl Try.underlying22 Try.underlying5 (by kernel_rfl) (by kernel_rfl) h0
  clear hA0 hval0 hsz0 hsz
  refine (PK.laws_FnGathers.walk Pure.FnGathers a0 len0 cap0 z0 W w0 y0).mono fun e W' ⟨he, bel⟩ => ?_
  subst he
  exact ⟨_, rfl, _, _, _, [], _, [], hW', trodAll_mk1 (shut_bool Try.underlying4 _), (trodAll_cons_mk (Below.trod laidOut (by kernel_rfl) (of_decide_eq_true (by kernel_rfl)) k0 bel lt0) trodAll_mk0), rfl, bel.frame _, fun h => by cases h⟩
theorem over : Rows.fnGathersRow.holds Try.pinned (OpenSpec.ofChange Rows.fnGathersSpec) :=
  OpenClaim.holds_of_wide 5 Try.f5 rfl rfl rfl rfl rfl rfl rfl ⟨rfl, rfl, rfl, rfl, rfl⟩ rfl rfl rfl rfl rfl (by kernel_rfl) Try.func5 (by kernel_rfl)
    (of_decide_eq_true (by kernel_rfl)) (by unfold Func.isWrapper; first | (rw [if_pos (by decide +kernel)]; kernel_rfl) | (rw [if_neg (by decide +kernel)]; exact ⟨rfl, rfl⟩))
    (fun os started H enc _ => lifted os started H enc)
theorem proved : Rows.FnGathersSaid := over
#print axioms proved
end Go.Proofs.Ytodokejcmbjpbaa.fnGathers
namespace Go.Proofs.Ytodokejcmbjpbaa
/-- The row, under a short name, for the claim. -/
theorem fnGathers_holds : Rows.FnGathersSaid := fnGathers.proved
end Go.Proofs.Ytodokejcmbjpbaa
