/- FnExactGather: functions of the translation as Lean functions with what their calls come to, plain lemmas on them, and, at the end, the row. Parts of one proof, merged by a program of this session; each part's own sentence stands at its head. -/
import Derived.Test.YtodokejcmbjpbaaRows
import Derived.WalkKit
import Derived.ProofKit
import Derived.OpenShut
import Derived.ShutString
import Derived.ChangeOld
import Derived.Below
import Derived.SizedLaws
import Derived.Test.YtodokejcmbjpbaaMFnExactGathere
set_option linter.unusedSimpArgs false
set_option linter.unusedVariables false
namespace Go.Proofs.Ytodokejcmbjpbaa.PK
open Go.RowKit Go.Proofs.YtodokejcmbjpbaaW.PrintWords Go.Proofs.YtodokejcmbjpbaaW.PrintLast Go.Proofs.YtodokejcmbjpbaaW.PrintMore
attribute [local go_sem] max2_int min2_int max_two min_two max_three min_three max_four min_four
def impl_varOf.f (k : Nat) (a0 : Int) : Option (ByteArray):=(impl_VarText.f k a0).bind fun bt216=>(some bt216.1)
theorem impl_varOf.mono : ∀ a0 k,LeO (impl_varOf.f k a0) (impl_varOf.f (k + 1) a0):=by
 intro a0 k;unfold impl_varOf.f
 repeat' first
   | (with_reducible exact impl_VarText.mono _ _)
   | (with_reducible exact LeO.refl _)
   | (with_reducible exact LeO.none _)
   | (with_reducible refine LeO.ite ?_ ?_)
   | (with_reducible refine LeO.bind ?_ (fun _=>?_))
   | exact impl_VarText.mono _ _
   | exact LeO.none _
   | refine LeO.ite ?_ ?_
   | refine LeO.bind ?_ (fun _=>?_)
set_option maxHeartbeats 8000000 in
set_option maxRecDepth 100000 in
theorem impl_varOf.calls (k : Nat) (a0 : Int) (r : ByteArray) (w : World) (h : impl_varOf.f k a0 = some r) :
  Calls Try.prog 50 #[.int .i64 a0] w fun e w'=>e = .returned (.string r) ∧ Below w.heap.size w w':=by
 have HB:=zMk (Below.refl w.heap.size w);have H : ((impl_VarText.f k a0).bind fun bt216=>(some bt216.1)) = some r:=h;clear h;replace H:=Option.bind_eq_some_iff.mp H;obtain ⟨⟨t216,t217⟩,A20,H⟩:=H;replace H : (some t216) = some r:=H;have A2:=zMk A20;clear A20;obtain rfl:=Option.some.inj H
 go_enter Try.func50,Try.ntmps50
 go_wp2_with (first | ((with_reducible refine gate_callee (f:=63) rfl ?_);refine goesL_ (some 7) rfl rfl Try.func63 (by kernel_rfl) rfl #[.int .i64 a0] rfl (by (try simp only [List.map_toArray,List.map_cons,List.map_nil]);first | done | rfl | (simp only [List.length_drop,List.length_take];rfl)) ?_;(with_reducible refine (impl_VarText.calls k a0 t216 t217 _ A2.out).mono ?_);rintro e w3 ⟨rfl,hb⟩;refine ⟨_,rfl,?_⟩;have n0_:=zMk (below_step (hs HB) hb);clear HB;have HB:=n0_;clear n0_;(try clear hb);(try clear hb2);(try clear hk);(try clear hi)))
 go_ret
 exact ⟨by first | rfl | (simp [errW_none,errW_some] <;> rfl) | (simp [*,errW_none,errW_some] <;> rfl),hs HB⟩
end Go.Proofs.Ytodokejcmbjpbaa.PK

/- A number in bytes, as one list; the program's VarText and the reference's l01Var tell it. -/
namespace Go.Proofs.Ytodokejcmbjpbaa.Pu
open Go.RowKit Go.Proofs.Ytodokejcmbjpbaa.PK Go.Proofs.YtodokejcmbjpbaaW.PrintWords
/-- The bytes of a number, seven bits at a time. -/
def varL (n : Nat) : List Int := if h : n > 127 then ((n % 128 + 128 : Nat) : Int) :: varL (n / 128) else [(n : Int)]
theorem varL_long {n : Nat} (h : n > 127) : varL n = ((n % 128 + 128 : Nat) : Int) :: varL (n / 128) := by rw [varL, dif_pos h]
theorem varL_short {n : Nat} (h : ¬ n > 127) : varL n = [(n : Int)] := by rw [varL, dif_neg h]
theorem varL_len : ∀ (d n : Nat), n < 128 ^ (d + 1) → (varL n).length ≤ d + 1 ∧ 1 ≤ (varL n).length
  | 0, n, h => by rw [varL_short (by omega)]; simp
  | d + 1, n, h => by
    by_cases hn : n > 127
    · rw [varL_long hn]
      have := varL_len d (n / 128) (by rw [Nat.pow_succ] at h; omega)
      simp only [List.length_cons]
      omega
    · rw [varL_short hn]; simp
theorem varL_len5 {n : Nat} (h : n ≤ 1000000000) : (varL n).length ≤ 5 ∧ 1 ≤ (varL n).length := varL_len 4 n (by omega)
theorem wbyte {n : Nat} (h : n > 127) (hn : n ≤ 1000000000) : wrap64 (Int.tdiv (n : Int) 128) = ((n / 128 : Nat) : Int) ∧ wrap64 (Int.tmod (n : Int) 128 + 128) % 256 = ((n % 128 + 128 : Nat) : Int) := by
  rw [Int.tdiv_eq_ediv_of_nonneg (by omega), Int.tmod_eq_emod_of_nonneg (by omega), w64 (by omega) (by omega), w64 (by omega) (by omega)]
  omega
theorem sVar_ev : ∀ (d n : Nat) (acc : List Int), n < 128 ^ (d + 1) → n ≤ 1000000000 → acc.length + d ≤ 100 → Ev (fun k => spec_l01Var.l0 k n acc) (strOfNums (acc ++ varL n))
  | 0, n, acc, h, hn, ha => ev_some fun k => by
    simp only [spec_l01Var.l0]
    rw [if_neg (by omega), if_pos (by omega), varL_short (by omega), show (n : Int) % 256 = n by omega]
  | d + 1, n, acc, h, hn, ha => by
    by_cases h1 : n > 127
    · have := sVar_ev d (n / 128) (acc ++ [((n % 128 + 128 : Nat) : Int)]) (by rw [Nat.pow_succ] at h; omega) (by omega) (by simp; omega)
      rw [varL_long h1, show acc ++ ((n % 128 + 128 : Nat) : Int) :: varL (n / 128) = (acc ++ [((n % 128 + 128 : Nat) : Int)]) ++ varL (n / 128) by simp]
      refine Ev.step (fun k => ?_) this
      simp only [spec_l01Var.l0]
      rw [if_pos (by omega), if_pos (by omega), (wbyte h1 hn).1, (wbyte h1 hn).2]
    · refine ev_some fun k => ?_
      simp only [spec_l01Var.l0]
      rw [if_neg (by omega), if_pos (by omega), varL_short h1, show (n : Int) % 256 = n by omega]
theorem iVar_ev : ∀ (d n : Nat) (acc : List Int), n < 128 ^ (d + 1) → n ≤ 1000000000 → acc.length + d ≤ 100 → Ev (fun k => impl_VarText.l0 k n acc) (strOfNums (acc ++ varL n), true)
  | 0, n, acc, h, hn, ha => ev_some fun k => by
    simp only [impl_VarText.l0]
    rw [if_neg (by omega), if_pos (by omega), varL_short (by omega), show (n : Int) % 256 = n by omega]
  | d + 1, n, acc, h, hn, ha => by
    by_cases h1 : n > 127
    · have := iVar_ev d (n / 128) (acc ++ [((n % 128 + 128 : Nat) : Int)]) (by rw [Nat.pow_succ] at h; omega) (by omega) (by simp; omega)
      rw [varL_long h1, show acc ++ ((n % 128 + 128 : Nat) : Int) :: varL (n / 128) = (acc ++ [((n % 128 + 128 : Nat) : Int)]) ++ varL (n / 128) by simp]
      refine Ev.step (fun k => ?_) this
      simp only [impl_VarText.l0]
      rw [if_pos (by omega), if_pos (by omega), (wbyte h1 hn).1, (wbyte h1 hn).2]
    · refine ev_some fun k => ?_
      simp only [impl_VarText.l0]
      rw [if_neg (by omega), if_pos (by omega), varL_short h1, show (n : Int) % 256 = n by omega]
theorem l01Var_ev {n : Int} (h0 : 0 ≤ n) (h : n ≤ 1000000000) : Ev (fun k => spec_l01Var.f k n) (strOfNums (varL n.toNat)) := by
  have := sVar_ev 4 n.toNat [] (by omega) (by omega) (by simp)
  rw [List.nil_append, show ((n.toNat : Nat) : Int) = n by omega] at this
  exact this
theorem varOf_ev {n : Int} (h0 : 0 ≤ n) (h : n ≤ 1000000000) : Ev (fun k => impl_varOf.f k n) (strOfNums (varL n.toNat)) := by
  have := iVar_ev 4 n.toNat [] (by omega) (by omega) (by simp)
  rw [List.nil_append, show ((n.toNat : Nat) : Int) = n by omega] at this
  unfold impl_varOf.f impl_VarText.f
  have e : impl_in.f n 0 1000000000 = some true := by
    unfold impl_in.f
    rw [if_pos h0, decide_eq_true h]
  simp only [e, Option.bind_some, if_true]
  exact ev_bind this (Ev.now _)
theorem strOf_size (l : List Int) : (strOfNums l).size = l.length := by
  unfold strOfNums
  simp [ByteArray.size]
end Go.Proofs.Ytodokejcmbjpbaa.Pu

/- More plain facts on rounds: tests in a row, folds, searches. -/
namespace Go.Proofs.Ytodokejcmbjpbaa.Pu
open Go.RowKit Go.Proofs.YtodokejcmbjpbaaW.PrintWords
/-- Tests in a row, one a round; then what comes. -/
theorem ev_scan {L : Nat → Int → Option Bool} {g : Nat → Option Bool} {n : Nat} {T : Nat → Bool} {r : Bool}
    (hs : ∀ k i, i < n → L (k + 1) (i : Int) = if T i = true then L k ((i + 1 : Nat) : Int) else some false) (he : ∀ k, L (k + 1) (n : Int) = g k) (hr : Ev g r) :
    ∀ (d i : Nat), i + d = n → Ev (fun k => L k (i : Int)) ((List.range' i d).all T && r) := by
  intro d
  induction d with
  | zero =>
    intro i hi
    obtain rfl : i = n := by omega
    exact Ev.step he hr
  | succ d ih =>
    intro i hi
    rw [List.range'_succ, List.all_cons]
    by_cases h : T i = true
    · rw [h, Bool.true_and]
      exact Ev.step (fun k => by rw [hs k i (by omega), if_pos h]) (ih (i + 1) (by omega))
    · rw [Bool.eq_false_iff.mpr h, Bool.false_and, Bool.false_and]
      exact ev_some fun k => by rw [hs k i (by omega), if_neg h]
/-- Tests in a row, each of many rounds; then what comes. -/
theorem ev_outer {L : Nat → Int → Option Bool} {n : Nat} {T : Nat → Bool} {r0 : Bool}
    (hs : ∀ i r, i < n → Ev (fun k => L k ((i + 1 : Nat) : Int)) r → Ev (fun k => L k (i : Int)) (T i && r)) (he : Ev (fun k => L k (n : Int)) r0) :
    ∀ (d i : Nat), i + d = n → Ev (fun k => L k (i : Int)) ((List.range' i d).all T && r0) := by
  intro d
  induction d with
  | zero =>
    intro i hi
    obtain rfl : i = n := by omega
    exact he
  | succ d ih =>
    intro i hi
    rw [List.range'_succ, List.all_cons, Bool.and_assoc]
    exact hs i _ (by omega) (ih (i + 1) (by omega))
/-- A state that is carried along; then what comes. -/
theorem ev_fold {σ ρ : Type} {L : Nat → σ → Int → Option ρ} {n : Nat} {F : σ → Nat → σ} {fin : σ → ρ} (Inv : Nat → σ → Prop)
    (hs : ∀ s i, i < n → Inv i s → ∀ r, Ev (fun k => L k (F s i) ((i + 1 : Nat) : Int)) r → Ev (fun k => L k s (i : Int)) r) (hi : ∀ s i, i < n → Inv i s → Inv (i + 1) (F s i))
    (he : ∀ s, Inv n s → Ev (fun k => L k s (n : Int)) (fin s)) : ∀ (d i : Nat) (s : σ), i + d = n → Inv i s → Ev (fun k => L k s (i : Int)) (fin ((List.range' i d).foldl F s)) := by
  intro d
  induction d with
  | zero =>
    intro i s h hv
    obtain rfl : i = n := by omega
    exact he s hv
  | succ d ih =>
    intro i s h hv
    rw [List.range'_succ, List.foldl_cons]
    exact hs s i (by omega) hv _ (ih (i + 1) (F s i) (by omega) (hi s i (by omega) hv))
/-- The first place that meets a test, -1 without one. -/
def findI (T : Nat → Bool) : Nat → Nat → Int
  | _, 0 => -1
  | i, d + 1 => if T i = true then (i : Int) else findI T (i + 1) d
theorem ev_find {L : Nat → Int → Option Int} {n : Nat} {T : Nat → Bool}
    (hy : ∀ i, i < n → T i = true → Ev (fun k => L k (i : Int)) (i : Int)) (hn : ∀ i, i < n → T i = false → ∀ r, Ev (fun k => L k ((i + 1 : Nat) : Int)) r → Ev (fun k => L k (i : Int)) r)
    (he : Ev (fun k => L k (n : Int)) (-1)) : ∀ (d i : Nat), i + d = n → Ev (fun k => L k (i : Int)) (findI T i d) := by
  intro d
  induction d with
  | zero =>
    intro i hi
    obtain rfl : i = n := by omega
    exact he
  | succ d ih =>
    intro i hi
    unfold findI
    by_cases h : T i = true
    · rw [if_pos h]; exact hy i (by omega) h
    · rw [if_neg h]; exact hn i (by omega) (Bool.eq_false_iff.mpr h) _ (ih (i + 1) (by omega))
theorem findI_range {T : Nat → Bool} : ∀ (d i : Nat), findI T i d = -1 ∨ ∃ j, i ≤ j ∧ j < i + d ∧ findI T i d = (j : Int) ∧ T j = true
  | 0, i => .inl rfl
  | d + 1, i => by
    unfold findI
    by_cases h : T i = true
    · rw [if_pos h]; exact .inr ⟨i, Nat.le_refl _, by omega, rfl, h⟩
    · rw [if_neg h]
      rcases findI_range d (i + 1) with h1 | ⟨j, h1, h2, h3, h4⟩
      · exact .inl h1
      · exact .inr ⟨j, by omega, by omega, h3, h4⟩
theorem bytes_empty (a : ByteArray) : (a.toList == ([] : List UInt8)) = decide ((a.size : Int) ≤ 0) := by
  rw [ByteArray.toList_eq]
  have h : a.data.toList.length = a.size := by rw [Array.length_toList]; rfl
  cases e : a.data.toList with
  | nil =>
    have h1 : a.size = 0 := by rw [← h, e]; rfl
    rw [decide_eq_true (by omega)]; rfl
  | cons x l =>
    have h1 : a.size = l.length + 1 := by rw [← h, e]; rfl
    rw [decide_eq_false (by omega)]; rfl
theorem getD_mem' {α : Type} {l : List α} {i : Nat} {z : α} (hi : i < l.length) : l.getD i z ∈ l := by
  rw [List.getD_eq_getElem?_getD, List.getElem?_eq_getElem hi]; exact List.getElem_mem hi
end Go.Proofs.Ytodokejcmbjpbaa.Pu

/- A number read from bytes, as one function; the program's and the reference's ReadVar tell it, and it reads what VarText writes. -/
namespace Go.Proofs.Ytodokejcmbjpbaa.Pu
open Go.RowKit Go.Proofs.Ytodokejcmbjpbaa.PK Go.Proofs.YtodokejcmbjpbaaW.PrintWords
/-- A text's bytes. -/
def byt (t : ByteArray) : List Nat := t.data.toList.map UInt8.toNat
theorem byt_len (t : ByteArray) : (byt t).length = t.size := by unfold byt; rw [List.length_map, Array.length_toList]; rfl
theorem bt_byt (t : ByteArray) (i : Nat) : bt t (i : Int) = (((byt t).getD i 0 : Nat) : Int) := by
  unfold bt
  by_cases h : i < t.size
  · rw [dif_pos (show ((i : Int)).toNat < t.size from h)]
    rw [List.getD_eq_getElem?_getD, List.getElem?_eq_getElem (by rw [byt_len]; exact h)]
    unfold byt
    rw [List.getElem_map, Array.getElem_toList]
    rfl
  · rw [dif_neg (show ¬ ((i : Int)).toNat < t.size from h), List.getD_eq_getElem?_getD, List.getElem?_eq_none (by rw [byt_len]; omega)]; rfl
theorem byt_lt (t : ByteArray) : ∀ b ∈ byt t, b < 256 := by
  intro b hb
  obtain ⟨x, _, rfl⟩ := List.mem_map.1 hb
  exact UInt8.toNat_lt x
theorem byt_get_lt (t : ByteArray) (i : Nat) : (byt t).getD i 0 < 256 := by
  by_cases h : i < (byt t).length
  · exact byt_lt t _ (getD_mem' h)
  · rw [List.getD_eq_getElem?_getD, List.getElem?_eq_none (by omega)]; exact by decide
theorem byt_inj {s t : ByteArray} (h : byt s = byt t) : s = t := by
  unfold byt at h
  have h2 := (List.map_inj_right (fun a b e => UInt8.toNat_inj.1 e)).1 h
  have h3 := Array.toList_inj.1 h2
  cases s; cases t; simp only at h3; rw [h3]
theorem byt_app (s t : ByteArray) : byt (s ++ t) = byt s ++ byt t := by
  unfold byt
  rw [show (s ++ t).data = s.data ++ t.data from ByteArray.data_append, Array.toList_append, List.map_append]
theorem byt_empty : byt ⟨#[]⟩ = [] := rfl
theorem byt_str (l : List Int) (h : ∀ x ∈ l, 0 ≤ x ∧ x < 256) : byt (strOfNums l) = l.map Int.toNat := by
  unfold byt strOfNums
  rw [List.map_map]
  refine List.map_congr_left fun x hx => ?_
  have := h x hx
  show (UInt8.ofNat x.toNat).toNat = x.toNat
  rw [UInt8.toNat_ofNat']
  omega
theorem byt_sub (t : ByteArray) (a b : Nat) : byt (t.extract a b) = ((byt t).drop a).take (b - a) := by
  unfold byt
  rw [ByteArray.data_extract, Array.toList_extract, List.extract_eq_take_drop, List.map_take, List.map_drop]
theorem toList_iff (s t : ByteArray) : s.toList = t.toList ↔ byt s = byt t := by
  rw [ByteArray.toList_eq, ByteArray.toList_eq]
  constructor
  · intro h; unfold byt; rw [h]
  · intro h; rw [byt_inj h]

theorem varL_byte (n : Nat) : ∀ y ∈ varL n, 0 ≤ y ∧ y < 256 := by
  induction n using Nat.strongRecOn with
  | _ n ih =>
    intro y hy
    by_cases hn : n > 127
    · rw [varL_long hn] at hy
      rcases List.mem_cons.1 hy with hy | hy
      · omega
      · exact ih (n / 128) (by omega) y hy
    · rw [varL_short hn] at hy
      obtain rfl := List.mem_singleton.1 hy
      omega
/-- The number that bytes mean. -/
def valB : List Nat → Nat
  | [] => 0
  | b :: r => b % 128 + 128 * valB r
theorem val_snoc : ∀ (l : List Nat) (x : Nat), valB (l ++ [x]) = valB l + x % 128 * 128 ^ l.length
  | [], x => by simp [valB]
  | b :: r, x => by
    show b % 128 + 128 * valB (r ++ [x]) = b % 128 + 128 * valB r + x % 128 * 128 ^ (r.length + 1)
    rw [val_snoc r x, Nat.mul_add, Nat.pow_succ, ← Nat.add_assoc]
    congr 1
    rw [Nat.mul_comm 128, Nat.mul_assoc]
theorem val_lt : ∀ l : List Nat, valB l < 128 ^ l.length
  | [] => by decide
  | b :: r => by
    have := val_lt r
    show b % 128 + 128 * valB r < 128 ^ (r.length + 1)
    rw [Nat.pow_succ]
    omega
theorem val_pos : ∀ (pre : List Nat) {x : Nat}, x < 128 → x ≠ 0 → 1 ≤ valB (pre ++ [x])
  | [], x, h, h0 => by show 1 ≤ x % 128 + 128 * 0; omega
  | b :: r, x, h, h0 => by
    have := val_pos r h h0
    show 1 ≤ b % 128 + 128 * valB (r ++ [x])
    omega
theorem canon1 : ∀ (pre : List Nat) {x : Nat}, (∀ b ∈ pre, 128 ≤ b ∧ b < 256) → x < 128 → (pre = [] ∨ x ≠ 0) → varL (valB (pre ++ [x])) = (pre ++ [x]).map fun b : Nat => (b : Int)
  | [], x, _, hx, _ => by
    have e : valB ([] ++ [x]) = x := by show x % 128 + 128 * 0 = x; omega
    rw [e, varL_short (by omega)]; rfl
  | b :: r, x, h, hx, h0 => by
    have hx0 : x ≠ 0 := by
      rcases h0 with h0 | h0
      · cases h0
      · exact h0
    have hp := val_pos r hx hx0
    have hb := h b List.mem_cons_self
    have e : valB (b :: r ++ [x]) = b % 128 + 128 * valB (r ++ [x]) := rfl
    rw [e, varL_long (by omega), show (b % 128 + 128 * valB (r ++ [x])) / 128 = valB (r ++ [x]) by omega, canon1 r (fun c hc => h c (List.mem_cons_of_mem _ hc)) hx (.inr hx0)]
    have e3 : (((b % 128 + 128 * valB (r ++ [x])) % 128 + 128 : Nat) : Int) = (b : Int) := by omega
    rw [e3]; rfl
theorem varL_zero {n : Nat} (h : varL n = [0]) : n = 0 := by
  by_cases hn : n > 127
  · rw [varL_long hn] at h
    have h1 := congrArg List.length h
    have h2 := (varL_len n (n / 128) (by
      have : n < 128 ^ n := Nat.lt_pow_self (by decide)
      rw [Nat.pow_succ]; omega)).2
    simp only [List.length_cons, List.length_nil] at h1
    omega
  · rw [varL_short hn] at h
    injection h with h1
    omega
theorem canon2 : ∀ (n : Nat) (l : List Int), varL n = l ++ [0] → l = [] := by
  intro n
  induction n using Nat.strongRecOn with
  | _ n ih =>
    intro l h
    by_cases hn : n > 127
    · rw [varL_long hn] at h
      cases l with
      | nil => rfl
      | cons c l =>
        injection h with h1 h2
        have := ih (n / 128) (by omega) l h2
        subst this
        have := varL_zero h2
        omega
    · rw [varL_short hn] at h
      cases l with
      | nil => rfl
      | cons c l =>
        injection h with h1 h2
        have := congrArg List.length h2
        simp at this
/-- A number read from bytes: the number, and how many bytes. -/
def rvL : List Nat → Nat → Nat → Nat → Option (Nat × Nat)
  | _, 0, _, _ => none
  | [], _ + 1, _, _ => none
  | x :: r, d + 1, k, n => if x ≥ 128 then rvL r d (k + 1) (n + x % 128 * 128 ^ k) else if (x = 0 ∧ k > 0) ∨ n + x % 128 * 128 ^ k > 1000000000 then none else some (n + x % 128 * 128 ^ k, k + 1)
def rvRes (a : Int) : Option (Nat × Nat) → Int × Int × Bool
  | none => (0, 0, false)
  | some z => ((z.1 : Int), a + (z.2 : Int), true)
def rvB (t : ByteArray) (a : Int) : Int × Int × Bool := if 0 ≤ a ∧ a ≤ (t.size : Int) then rvRes a (rvL ((byt t).drop a.toNat) 5 0 0) else (0, 0, false)
theorem drop_byt {t : ByteArray} {i : Nat} (h : i < t.size) : (byt t).drop i = (byt t).getD i 0 :: (byt t).drop (i + 1) := by
  rw [List.drop_eq_getElem_cons (by rw [byt_len]; exact h), List.getD_eq_getElem?_getD, List.getElem?_eq_getElem (by rw [byt_len]; exact h)]; rfl
theorem shl7 {x k : Nat} (hx : x < 128) (hk : k < 5) : shl .i64 (x : Int) (wrap64 (7 * (k : Int))) = ((x * 128 ^ k : Nat) : Int) := by
  have e : wrap64 (7 * (k : Int)) = 7 * (k : Int) := w64 (by omega) (by omega)
  rw [e]
  have h := shl_small (k := .i64) (x := (x : Int)) (y := 7 * (k : Int)) rfl (by show (7 * (k : Int)) ≤ ((IntKind.bits .i64 : Nat) : Int); rw [show IntKind.bits .i64 = 64 from rfl]; omega)
  rw [← h, show (7 * (k : Int)).toNat = 7 * k by omega]
  have p : (128 : Nat) ^ k = 2 ^ (7 * k) := by rw [Nat.pow_mul]
  have q : (128 : Nat) ^ k ≤ 128 ^ 4 := Nat.pow_le_pow_right (by decide) (by omega)
  have e2 : (x : Int) * 2 ^ (7 * k) = ((x * 128 ^ k : Nat) : Int) := by rw [p]; push_cast; rfl
  rw [e2, Go.IntKind.wrap_i64]
  have : x * 128 ^ k ≤ 127 * 128 ^ 4 := Nat.mul_le_mul (by omega) q
  omega
theorem tmod128 (x : Nat) : Int.tmod (wrap64 ((x : Nat) : Int)) 128 = (((if x < 9223372036854775808 then x % 128 else 0 : Nat)) : Int) ∨ 9223372036854775808 ≤ x := by
  by_cases h : x < 9223372036854775808
  · left; rw [if_pos h, w64 (by omega) (by omega), Int.tmod_eq_emod_of_nonneg (by omega)]; omega
  · right; omega
theorem tmod128' {x : Nat} (h : x < 256) : Int.tmod (wrap64 ((x : Nat) : Int)) 128 = ((x % 128 : Nat) : Int) := by
  rw [w64 (by omega) (by omega), Int.tmod_eq_emod_of_nonneg (by omega)]; omega
theorem pow5 {k : Nat} (h : k ≤ 5) : (128 : Nat) ^ k ≤ 34359738368 := Nat.le_trans (Nat.pow_le_pow_right (by decide) h) (by decide)
theorem step_lt {n x k : Nat} (hn : n < 128 ^ k) : n + x % 128 * 128 ^ k < 128 ^ (k + 1) := by
  rw [Nat.pow_succ]
  have : x % 128 * 128 ^ k ≤ 127 * 128 ^ k := Nat.mul_le_mul_right _ (by omega)
  omega
theorem rvL_zero (l : List Nat) (k n : Nat) : rvL l 0 k n = none := by cases l <;> rfl
theorem rvL_nil (d k n : Nat) : rvL [] d k n = none := by cases d <;> rfl
theorem rvL_cons (x : Nat) (r : List Nat) (d k n : Nat) : rvL (x :: r) (d + 1) k n = if x ≥ 128 then rvL r d (k + 1) (n + x % 128 * 128 ^ k) else if (x = 0 ∧ k > 0) ∨ n + x % 128 * 128 ^ k > 1000000000 then none else some (n + x % 128 * 128 ^ k, k + 1) := by rw [rvL]
theorem res_some {a : Int} {M k : Nat} {b : Int} (h : b = a + ((k + 1 : Nat) : Int)) : some ((M : Int), b, true) = some (rvRes a (some (M, k + 1))) := by subst h; rfl
theorem iRV_step (K : Nat) (t : ByteArray) (a k n x M : Nat) (hs : t.size ≤ 1099511627776) (hk : k < 5) (hlt : a + k < t.size) (hx : x < 256) (eb : bt t ((a + k : Nat) : Int) = (x : Int)) (hM : n + x % 128 * 128 ^ k = M) (hM2 : M ≤ 34359738368) :
    impl_ReadVar.j1 (K + 1) t (a : Int) (n : Int) (k : Int) true = if x ≥ 128 then impl_ReadVar.l0 K t (a : Int) (M : Int) ((k + 1 : Nat) : Int) else some (rvRes (a : Int) (if (x = 0 ∧ k > 0) ∨ M > 1000000000 then none else some (M, k + 1))) := by
  have en : wrap64 ((n : Int) + shl .i64 (Int.tmod (wrap64 ((x : Nat) : Int)) 128) (wrap64 (7 * (k : Int)))) = (M : Int) := by
    rw [tmod128' hx, shl7 (by omega) hk, w64 (by omega) (by omega)]; omega
  have ea : wrap64 ((a : Int) + (k : Int)) = ((a + k : Nat) : Int) := by rw [w64 (by omega) (by omega)]; omega
  have wx : wrap64 ((x : Nat) : Int) = (x : Int) := w64 (by omega) (by omega)
  have e7 : (0 : Int) ≤ wrap64 (7 * (k : Int)) := by rw [w64 (by omega) (by omega)]; omega
  clear hM
  rw [wx] at en
  simp only [impl_ReadVar.j1, ea, eb, en, wx, if_true, if_pos (show (0 : Int) ≤ ((a + k : Nat) : Int) by omega), if_pos (show ((a + k : Nat) : Int) < (t.size : Int) by omega), if_pos e7, wsucc (n := 5) hk (by omega), wsucc (n := t.size) hlt (by omega)]
  by_cases h1 : x ≥ 128
  · rw [if_pos (by omega), if_pos h1]
  · rw [if_neg (by omega), if_neg h1]
    by_cases h4 : M > 1000000000
    · rw [if_pos (show (x = 0 ∧ k > 0) ∨ M > 1000000000 from .inr h4)]
      by_cases h2 : (x : Int) = 0
      · rw [if_pos h2]
        by_cases h3 : (k : Int) > 0
        · rw [if_pos h3]; rfl
        · rw [if_neg h3, if_pos (by omega)]; rfl
      · rw [if_neg h2, if_pos (by omega)]; rfl
    · by_cases h2 : (x : Int) = 0
      · rw [if_pos h2]
        by_cases h3 : (k : Int) > 0
        · rw [if_pos h3, if_pos (show (x = 0 ∧ k > 0) ∨ M > 1000000000 from .inl ⟨by omega, by omega⟩)]; rfl
        · rw [if_neg h3, if_neg (by omega), if_neg (by omega)]
          exact res_some (by omega)
      · rw [if_neg h2, if_neg (by omega), if_neg (by omega)]
        exact res_some (by omega)
theorem iReadVar_ev (t : ByteArray) (a : Int) (hs : t.size ≤ 1099511627776) (ha : a ≤ (t.size : Int)) : Ev (fun k => impl_ReadVar.f k t a) (rvB t a) := by
  unfold impl_ReadVar.f rvB
  by_cases h0 : 0 ≤ a
  · rw [if_pos ⟨h0, ha⟩]
    obtain ⟨a, rfl⟩ : ∃ m : Nat, a = (m : Int) := ⟨a.toNat, by omega⟩
    rw [Int.toNat_natCast]
    have main : ∀ (d k n : Nat), k + d = 5 → n < 128 ^ k → Ev (fun K => impl_ReadVar.l0 K t (a : Int) (n : Int) (k : Int)) (rvRes (a : Int) (rvL ((byt t).drop (a + k)) d k n)) := by
      intro d
      induction d with
      | zero =>
        intro k n hk hn
        rw [rvL_zero]
        refine Ev.step (f := fun K => impl_ReadVar.j1 K t (a : Int) (n : Int) (k : Int) false) (fun K => by simp only [impl_ReadVar.l0]; rw [if_neg (by omega)]) (ev_some fun K => ?_)
        simp only [impl_ReadVar.j1]
        rfl
      | succ d ih =>
        intro k n hk hn
        refine Ev.step (f := fun K => impl_ReadVar.j1 K t (a : Int) (n : Int) (k : Int) (decide ((a + k : Nat) < t.size))) (fun K => ?_) ?_
        · simp only [impl_ReadVar.l0]
          rw [if_pos (by omega), if_pos (by omega), w64 (x := (t.size : Int) - k) (by omega) (by omega)]
          congr 1
          exact decide_eq_decide.2 (by omega)
        · by_cases hlt : a + k < t.size
          · rw [decide_eq_true hlt, drop_byt hlt, rvL_cons]
            have hx := byt_get_lt t (a + k)
            have eb := bt_byt t (a + k)
            generalize (byt t).getD (a + k) 0 = x at hx eb ⊢
            have sl := step_lt (x := x) hn
            have p6 := pow5 (show k + 1 ≤ 5 by omega)
            have st := fun K => iRV_step K t a k n x _ hs (by omega) hlt hx eb rfl (by omega)
            by_cases h1 : x ≥ 128
            · rw [if_pos h1]
              exact Ev.step (fun K => by rw [st K, if_pos h1]) (ih (k + 1) _ (by omega) sl)
            · rw [if_neg h1]
              exact ev_some fun K => by rw [st K, if_neg h1]
          · rw [decide_eq_false hlt, List.drop_eq_nil_of_le (by rw [byt_len]; omega), rvL_nil]
            refine ev_some fun K => ?_
            simp only [impl_ReadVar.j1]
            rfl
    exact main 5 0 0 rfl (by decide)
  · rw [if_neg (fun h => h0 h.1)]
    refine Ev.step (f := fun K => impl_ReadVar.j1 K t a 0 0 false) (fun K => by simp only [impl_ReadVar.l0]; rw [if_pos (by omega), if_neg (by omega)]) (ev_some fun K => ?_)
    simp only [impl_ReadVar.j1]
    rfl
theorem natcast_map {V : List Int} (h : ∀ y ∈ V, 0 ≤ y) : (V.map Int.toNat).map (fun b : Nat => (b : Int)) = V := by
  induction V with
  | nil => rfl
  | cons y V ih =>
    have := h y List.mem_cons_self
    show ((y.toNat : Nat) : Int) :: (V.map Int.toNat).map (fun b : Nat => (b : Int)) = y :: V
    rw [ih fun z hz => h z (List.mem_cons_of_mem _ hz), show ((y.toNat : Nat) : Int) = y by omega]
theorem toNat_map : ∀ l : List Nat, (l.map fun b : Nat => (b : Int)).map Int.toNat = l
  | [] => rfl
  | y :: l => by
    show ((y : Nat) : Int).toNat :: (l.map fun b : Nat => (b : Int)).map Int.toNat = y :: l
    rw [toNat_map l, Int.toNat_natCast]
/-- What the reference holds a number's bytes against. -/
theorem sRV_key {t : ByteArray} {a k x : Nat} {pre : List Nat} (hl : pre.length = k) (es : (byt t).drop a = (pre ++ [x]) ++ (byt t).drop (a + (k + 1))) (hb : ∀ b ∈ pre, 128 ≤ b ∧ b < 256) (hx : x < 128) :
    (strOfNums (varL (valB (pre ++ [x])))).toList = (t.extract a (a + k + 1)).toList ↔ (pre = [] ∨ x ≠ 0) := by
  have seg : byt (t.extract a (a + k + 1)) = pre ++ [x] := by
    rw [byt_sub, es, show a + k + 1 - a = (pre ++ [x]).length by simp; omega, List.take_left]
  have vb := varL_byte (valB (pre ++ [x]))
  rw [toList_iff, seg, byt_str _ vb]
  constructor
  · intro h
    by_cases h0 : x = 0
    · left
      subst h0
      have e2 := congrArg (List.map fun b : Nat => (b : Int)) h
      rw [natcast_map fun y hy => (vb y hy).1] at e2
      rw [List.map_append] at e2
      exact List.map_eq_nil_iff.1 (canon2 _ _ e2)
    · exact .inr h0
  · intro h
    rw [canon1 pre hb hx h, toNat_map]
theorem sRV_step (K : Nat) (t : ByteArray) (a k n x M P : Nat) (hs : t.size ≤ 1099511627776) (hk : k < 5) (hlt : a + k < t.size) (hx : x < 256) (eb : bt t ((a + k : Nat) : Int) = (x : Int)) (hP : 128 ^ k = P) (hM : n + x % 128 * P = M) (hM2 : M ≤ 34359738368) (hP2 : P ≤ 268435456) :
    spec_ReadVar.j1 (K + 1) t (a : Int) (n : Int) (P : Int) ((a + k : Nat) : Int) true = if x ≥ 128 then spec_ReadVar.l0 K t (a : Int) (M : Int) ((P * 128 : Nat) : Int) ((a + (k + 1) : Nat) : Int) else if M > 1000000000 then some (0, 0, false) else (spec_l01Var.f K (M : Int)).bind fun t116 => if t116.toList = (t.extract a (a + k + 1)).toList then some ((M : Int), ((a + k + 1 : Nat) : Int), true) else some (0, 0, false) := by
  have en : wrap64 ((n : Int) + wrap64 (Int.tmod (wrap64 ((x : Nat) : Int)) 128 * (P : Int))) = (M : Int) := by
    rw [tmod128' hx, ← Int.natCast_mul, w64 (x := ((x % 128 * P : Nat) : Int)) (by omega) (by omega), w64 (by omega) (by omega)]; omega
  have ep : wrap64 ((P : Int) * 128) = ((P * 128 : Nat) : Int) := by rw [w64 (by omega) (by omega)]; omega
  clear hM hP
  simp only [spec_ReadVar.j1, eb, en, ep, if_true, if_pos (show (0 : Int) ≤ ((a + k : Nat) : Int) by omega), if_pos (show ((a + k : Nat) : Int) < (t.size : Int) by omega), wsucc (n := t.size) hlt (by omega), Int.toNat_natCast, if_pos (show (0 : Int) ≤ (a : Int) by omega), if_pos (show (a : Int) ≤ ((a + k + 1 : Nat) : Int) by omega), if_pos (show ((a + k + 1 : Nat) : Int) ≤ (t.size : Int) by omega)]
  by_cases h1 : x ≥ 128
  · rw [if_neg (by omega), if_pos h1]; rfl
  · rw [if_pos (by omega), if_neg h1]
    by_cases h4 : M > 1000000000
    · rw [if_pos (by omega), if_pos h4]
    · rw [if_neg (by omega), if_neg h4]
theorem sReadVar_ev (t : ByteArray) (a : Int) (hs : t.size ≤ 1099511627776) : Ev (fun k => spec_ReadVar.f k t a) (rvB t a) := by
  unfold spec_ReadVar.f rvB
  have hin : spec_l01In.f a 0 (t.size : Int) = some (decide (0 ≤ a ∧ a ≤ (t.size : Int))) := by
    unfold spec_l01In.f
    by_cases h1 : a ≥ 0
    · rw [if_pos h1]; congr 1; simp; omega
    · rw [if_neg h1]; congr 1; simp; omega
  simp only [hin, Option.bind_some, decide_eq_true_eq]
  by_cases h0 : 0 ≤ a ∧ a ≤ (t.size : Int)
  · simp only [if_pos h0]
    obtain ⟨a, rfl⟩ : ∃ m : Nat, a = (m : Int) := ⟨a.toNat, by omega⟩
    rw [Int.toNat_natCast]
    have main : ∀ (d k : Nat) (pre : List Nat), k + d = 5 → pre.length = k → (byt t).drop a = pre ++ (byt t).drop (a + k) → (∀ b ∈ pre, 128 ≤ b ∧ b < 256) → Ev (fun K => spec_ReadVar.l0 K t (a : Int) (valB pre : Int) ((128 ^ k : Nat) : Int) ((a + k : Nat) : Int)) (rvRes (a : Int) (rvL ((byt t).drop (a + k)) d k (valB pre))) := by
      intro d
      induction d with
      | zero =>
        intro k pre hk hl hp hb
        rw [rvL_zero]
        refine Ev.step (f := fun K => spec_ReadVar.j1 K t (a : Int) (valB pre : Int) ((128 ^ k : Nat) : Int) ((a + k : Nat) : Int) false) (fun K => ?_) (ev_some fun K => ?_)
        · simp only [spec_ReadVar.l0]
          by_cases h : ((a + k : Nat) : Int) < (t.size : Int)
          · rw [if_pos h, w64 (x := (a : Int) + 5) (by omega) (by omega), decide_eq_false (by omega)]
          · rw [if_neg h]
        · simp only [spec_ReadVar.j1]
          rfl
      | succ d ih =>
        intro k pre hk hl hp hb
        have hn : valB pre < 128 ^ k := hl ▸ val_lt pre
        refine Ev.step (f := fun K => spec_ReadVar.j1 K t (a : Int) (valB pre : Int) ((128 ^ k : Nat) : Int) ((a + k : Nat) : Int) (decide ((a + k : Nat) < t.size))) (fun K => ?_) ?_
        · simp only [spec_ReadVar.l0]
          by_cases h : ((a + k : Nat) : Int) < (t.size : Int)
          · rw [if_pos h, w64 (x := (a : Int) + 5) (by omega) (by omega), decide_eq_true (show ((a + k : Nat) : Int) < (a : Int) + 5 by omega), decide_eq_true (show a + k < t.size by omega)]
          · rw [if_neg h, decide_eq_false (show ¬ a + k < t.size by omega)]
        · by_cases hlt : a + k < t.size
          · rw [decide_eq_true hlt, drop_byt hlt, rvL_cons]
            have hx := byt_get_lt t (a + k)
            have hd := drop_byt hlt
            have eb := bt_byt t (a + k)
            generalize (byt t).getD (a + k) 0 = x at hx eb hd ⊢
            have sl := step_lt (x := x) hn
            have p6 := pow5 (show k + 1 ≤ 5 by omega)
            have q4 : (128 : Nat) ^ k ≤ 268435456 := Nat.le_trans (Nat.pow_le_pow_right (by decide) (show k ≤ 4 by omega)) (by decide)
            have vs : valB (pre ++ [x]) = valB pre + x % 128 * 128 ^ k := by rw [val_snoc, hl]
            have es : (byt t).drop a = (pre ++ [x]) ++ (byt t).drop (a + (k + 1)) := by rw [hp, hd]; simp [Nat.add_assoc]
            rw [← vs] at sl ⊢
            have st := fun K => sRV_step K t a k (valB pre) x (valB (pre ++ [x])) _ hs (by omega) hlt hx eb rfl vs.symm (by omega) q4
            by_cases h1 : x ≥ 128
            · rw [if_pos h1]
              exact Ev.step (fun K => by rw [st K, if_pos h1, ← Nat.pow_succ]) (ih (k + 1) (pre ++ [x]) (by omega) (by simp; omega) es (fun b hb' => by
                rcases List.mem_append.1 hb' with hb' | hb'
                · exact hb b hb'
                · obtain rfl := List.mem_singleton.1 hb'; exact ⟨h1, hx⟩))
            · rw [if_neg h1]
              have key := sRV_key hl es hb (by omega)
              have hv := fun h => l01Var_ev (n := (valB (pre ++ [x]) : Int)) (by omega) h
              rw [Int.toNat_natCast] at hv
              clear vs
              generalize valB (pre ++ [x]) = M at st key hv sl ⊢
              by_cases h4 : M > 1000000000
              · rw [if_pos (.inr h4)]
                exact ev_some fun K => by rw [st K, if_neg h1, if_pos h4]; rfl
              · refine Ev.step (fun K => by rw [st K, if_neg h1, if_neg h4]) (ev_bind (hv (by omega)) ?_)
                by_cases h2 : pre = [] ∨ x ≠ 0
                · rw [if_pos (key.2 h2), if_neg (fun h => by
                    rcases h with ⟨h5, h6⟩ | h
                    · rcases h2 with h2 | h2
                      · rw [h2] at hl; simp at hl; omega
                      · exact h2 h5
                    · exact h4 h)]
                  exact ev_const (res_some (by omega))
                · rw [if_neg (fun h => h2 (key.1 h)), if_pos (.inl ⟨by
                    by_cases h5 : x = 0
                    · exact h5
                    · exact absurd (.inr h5) h2, by
                    cases pre with
                    | nil => exact absurd (.inl rfl) h2
                    | cons b r => simp at hl; omega⟩)]
                  exact Ev.now _
          · rw [decide_eq_false hlt, List.drop_eq_nil_of_le (by rw [byt_len]; omega), rvL_nil]
            refine ev_some fun K => ?_
            simp only [spec_ReadVar.j1]
            rfl
    exact main 5 0 [] rfl rfl rfl (fun b hb => by cases hb)
  · simp only [if_neg h0]
    exact Ev.now _
end Go.Proofs.Ytodokejcmbjpbaa.Pu

/- When a record is right, as one test; the program's and the reference's RecOk answer it. -/
namespace Go.Proofs.Ytodokejcmbjpbaa.Pu
open Go.RowKit Go.Proofs.Ytodokejcmbjpbaa.PK Go.Proofs.YtodokejcmbjpbaaW.PrintWords
theorem in_eq' (a l h : Int) : impl_in.f a l h = some (decide (l ≤ a ∧ a ≤ h)) := by
  unfold impl_in.f
  by_cases h1 : a ≥ l
  · rw [if_pos h1]; congr 1; simp; omega
  · rw [if_neg h1]; congr 1; simp; omega
theorem l01In_eq' (a l h : Int) : spec_l01In.f a l h = some (decide (l ≤ a ∧ a ≤ h)) := by
  unfold spec_l01In.f
  by_cases h1 : a ≥ l
  · rw [if_pos h1]; congr 1; simp; omega
  · rw [if_neg h1]; congr 1; simp; omega
theorem some_dec {b : Bool} {P : Prop} [Decidable P] (h : b = true ↔ P) : some b = some (decide P) := by
  congr 1
  rw [Bool.eq_iff_iff, decide_eq_true_eq]
  exact h

/-- A record is right. -/
def recOk (t v a c : Int) : Bool := decide (0 ≤ a ∧ a ≤ 1000000000 ∧ ((t = 1 ∧ v = 0 ∧ c = 0) ∨ (1 ≤ v ∧ v ≤ 9 ∧ ((t = 2 ∧ c = 0 ∧ a ≤ 9) ∨ (t = 3 ∧ c = 0 ∧ a = 0) ∨ (t = 4 ∧ a ≤ 15 ∧ 1 ≤ c ∧ c ≤ 1000000000) ∨ (t = 5 ∧ c = 0 ∧ a ≤ 15)))))
theorem impl_RecOk_eq (k : Nat) (t v a c : Int) : impl_RecOk.f (k + 1) t v a c = some (recOk t v a c) := by
  unfold impl_RecOk.f impl_RecOk.j0 recOk
  simp only [in_eq', Option.bind_some]
  repeat' split
  all_goals (refine some_dec ?_)
  all_goals (simp only [beq_iff_eq, bne_iff_ne, ne_eq, decide_eq_true_eq, Bool.false_eq_true, false_iff, not_true_eq_false, not_false_eq_true] at *)
  all_goals omega
theorem spec_RecOk_eq (k : Nat) (t v a c : Int) : spec_RecOk.f (k + 1) t v a c = some (recOk t v a c) := by
  unfold spec_RecOk.f spec_RecOk.j0 recOk
  simp only [l01In_eq', Option.bind_some]
  repeat' split
  all_goals (refine some_dec ?_)
  all_goals (simp only [beq_iff_eq, bne_iff_ne, ne_eq, decide_eq_true_eq, Bool.false_eq_true, false_iff, not_true_eq_false, not_false_eq_true] at *)
  all_goals omega
theorem iRecOk_ev (t v a c : Int) : Ev (fun k => impl_RecOk.f k t v a c) (recOk t v a c) := ev_some fun k => impl_RecOk_eq k t v a c
theorem sRecOk_ev (t v a c : Int) : Ev (fun k => spec_RecOk.f k t v a c) (recOk t v a c) := ev_some fun k => spec_RecOk_eq k t v a c
theorem recOk_range {t v a c : Int} (h : recOk t v a c = true) : 1 ≤ t ∧ t ≤ 5 ∧ 0 ≤ v ∧ v ≤ 9 ∧ 0 ≤ a ∧ a ≤ 1000000000 ∧ 0 ≤ c ∧ c ≤ 1000000000 := by
  unfold recOk at h
  rw [decide_eq_true_eq] at h
  omega
end Go.Proofs.Ytodokejcmbjpbaa.Pu

/- Records read from bytes, as one function; the program's and the reference's ReadRecs tell them. -/
namespace Go.Proofs.Ytodokejcmbjpbaa.Pu
open Go.RowKit Go.Proofs.Ytodokejcmbjpbaa.PK Go.Proofs.YtodokejcmbjpbaaW.PrintWords
theorem rvL_range : ∀ (l : List Nat) (d k n : Nat) {m c : Nat}, rvL l d k n = some (m, c) → k + 1 ≤ c ∧ c ≤ k + l.length ∧ m ≤ 1000000000
  | l, 0, k, n, m, c, h => by rw [rvL_zero] at h; cases h
  | [], d + 1, k, n, m, c, h => by rw [rvL_nil] at h; cases h
  | x :: r, d + 1, k, n, m, c, h => by
    rw [rvL_cons] at h
    by_cases h1 : x ≥ 128
    · rw [if_pos h1] at h
      have := rvL_range r d (k + 1) _ h
      simp only [List.length_cons]
      omega
    · rw [if_neg h1] at h
      by_cases h2 : (x = 0 ∧ k > 0) ∨ n + x % 128 * 128 ^ k > 1000000000
      · rw [if_pos h2] at h; cases h
      · rw [if_neg h2] at h
        injection h with h
        injection h with h3 h4
        simp only [List.length_cons]
        omega
theorem rvB_range (t : ByteArray) (a : Int) : ((rvB t a).2.2 = false ∧ rvB t a = (0, 0, false)) ∨ ((rvB t a).2.2 = true ∧ 0 ≤ a ∧ a < (rvB t a).2.1 ∧ (rvB t a).2.1 ≤ (t.size : Int) ∧ 0 ≤ (rvB t a).1 ∧ (rvB t a).1 ≤ 1000000000) := by
  unfold rvB
  by_cases h : 0 ≤ a ∧ a ≤ (t.size : Int)
  · rw [if_pos h]
    cases e : rvL ((byt t).drop a.toNat) 5 0 0 with
    | none => exact .inl ⟨rfl, rfl⟩
    | some z =>
      obtain ⟨m, c⟩ := z
      have h1 := rvL_range _ _ _ _ e
      rw [List.length_drop, byt_len] at h1
      refine .inr ⟨rfl, ?_⟩
      show 0 ≤ a ∧ a < a + (c : Int) ∧ a + (c : Int) ≤ (t.size : Int) ∧ 0 ≤ (m : Int) ∧ (m : Int) ≤ 1000000000
      omega
  · rw [if_neg h]; exact .inl ⟨rfl, rfl⟩
def recAt (t : ByteArray) (i : Nat) : S45 := ⟨(((byt t).getD i 0 / 16 : Nat) : Int), (((byt t).getD i 0 % 16 : Nat) : Int), (rvB t ((i + 1 : Nat) : Int)).1, (rvB t (rvB t ((i + 1 : Nat) : Int)).2.1).1⟩
def recEnd (t : ByteArray) (i : Nat) : Int := (rvB t (rvB t ((i + 1 : Nat) : Int)).2.1).2.1
def recMay (t : ByteArray) (i : Nat) : Bool := (rvB t ((i + 1 : Nat) : Int)).2.2 && (rvB t (rvB t ((i + 1 : Nat) : Int)).2.1).2.2
def rrB (t : ByteArray) : Nat → Nat → List S45 → List S45 × Bool
  | 0, _, acc => (acc, true)
  | d + 1, i, acc => if i < t.size then (if (recMay t i && recOk (recAt t i).f0 (recAt t i).f1 (recAt t i).f2 (recAt t i).f3) = true then rrB t d (recEnd t i).toNat (acc ++ [recAt t i]) else ([], false)) else (acc, true)
theorem rrB_len (t : ByteArray) : ∀ (d i : Nat) (acc : List S45), (rrB t d i acc).1.length ≤ acc.length + d
  | 0, i, acc => Nat.le_refl _
  | d + 1, i, acc => by
    unfold rrB
    by_cases h : i < t.size
    · rw [if_pos h]
      by_cases h2 : (recMay t i && recOk (recAt t i).f0 (recAt t i).f1 (recAt t i).f2 (recAt t i).f3) = true
      · rw [if_pos h2]
        have := rrB_len t d (recEnd t i).toNat (acc ++ [recAt t i])
        simp only [List.length_append, List.length_cons, List.length_nil] at this
        omega
      · rw [if_neg h2]; exact Nat.zero_le _
    · rw [if_neg h]; show acc.length ≤ _; omega
theorem div16 {x : Nat} (h : x < 256) : wrap64 (Int.tdiv (wrap64 ((x : Nat) : Int)) 16) = ((x / 16 : Nat) : Int) ∧ Int.tmod (wrap64 ((x : Nat) : Int)) 16 = ((x % 16 : Nat) : Int) := by
  rw [w64 (x := ((x : Nat) : Int)) (by omega) (by omega), Int.tdiv_eq_ediv_of_nonneg (by omega), Int.tmod_eq_emod_of_nonneg (by omega), w64 (by omega) (by omega)]
  omega
theorem iReadRecs_ev (t : ByteArray) (hs : t.size ≤ 1048576) : Ev (fun k => impl_ReadRecs.f k t) (rrB t (t.size + 1) 0 []) := by
  unfold impl_ReadRecs.f
  have main : ∀ (d i : Nat) (acc : List S45), t.size < i + d → i ≤ t.size → acc.length ≤ i → Ev (fun K => impl_ReadRecs.l0 K t acc (i : Int)) (rrB t d i acc) := by
    intro d
    induction d with
    | zero => intro i acc h1 h2 _; omega
    | succ d ih =>
      intro i acc h1 h2 h3
      unfold rrB
      by_cases hi : i < t.size
      · rw [if_pos hi]
        have hx := byt_get_lt t i
        have eb := bt_byt t i
        obtain ⟨d1, d2⟩ := div16 hx
        have A := rvB_range t ((i + 1 : Nat) : Int)
        have C := rvB_range t (rvB t ((i + 1 : Nat) : Int)).2.1
        have ea := iReadVar_ev t ((i + 1 : Nat) : Int) (by omega) (by omega)
        have ec := iReadVar_ev t (rvB t ((i + 1 : Nat) : Int)).2.1 (by omega) (by
          rcases A with ⟨_, h⟩ | h
          · rw [h]; show (0 : Int) ≤ _; omega
          · omega)
        refine Ev.step (f := fun K => (impl_ReadVar.f K t ((i + 1 : Nat) : Int)).bind fun bt150 => (impl_ReadVar.f K t bt150.2.1).bind fun bt153 => if 0 ≤ (i : Int) then (if bt150.2.2 = true then (if bt153.2.2 = true then ((impl_RecOk.f K (((byt t).getD i 0 / 16 : Nat) : Int) (((byt t).getD i 0 % 16 : Nat) : Int) bt150.1 bt153.1).bind fun t157 => (if t157 = true then impl_ReadRecs.l0 K t (acc ++ [(⟨(((byt t).getD i 0 / 16 : Nat) : Int), (((byt t).getD i 0 % 16 : Nat) : Int), bt150.1, bt153.1⟩ : S45)]) bt153.2.1 else some ([], false))) else some ([], false)) else some ([], false)) else none) (fun K => ?_) (ev_bind ea (ev_bind ec ?_))
        · simp only [impl_ReadRecs.l0]
          rw [if_pos (by omega), wsucc (n := t.size) hi (by omega), eb, d1, d2]
          simp only [if_pos (show acc.length < 4398046511104 by omega)]
        · simp only [if_pos (show (0 : Int) ≤ (i : Int) by omega)]
          unfold recMay
          rcases A with ⟨h4, h5⟩ | ⟨h4, h5⟩
          · rw [h4]; exact Ev.now _
          · simp only [h4, if_true, Bool.true_and]
            rcases C with ⟨h6, h7⟩ | ⟨h6, h7⟩
            · rw [h6]; exact Ev.now _
            · simp only [h6, if_true, Bool.true_and]
              refine ev_bind (iRecOk_ev _ _ _ _) ?_
              show Ev (fun K => if recOk (recAt t i).f0 (recAt t i).f1 (recAt t i).f2 (recAt t i).f3 = true then impl_ReadRecs.l0 K t (acc ++ [recAt t i]) (recEnd t i) else some ([], false)) _
              by_cases h8 : recOk (recAt t i).f0 (recAt t i).f1 (recAt t i).f2 (recAt t i).f3 = true
              · simp only [if_pos h8]
                have h9 : recEnd t i = (((recEnd t i).toNat : Nat) : Int) := by unfold recEnd; omega
                rw [h9, Int.toNat_natCast]
                exact ih (recEnd t i).toNat (acc ++ [recAt t i]) (by unfold recEnd; omega) (by unfold recEnd; omega) (by simp only [List.length_append, List.length_cons, List.length_nil]; unfold recEnd; omega)
              · simp only [if_neg h8]; exact Ev.now _
      · rw [if_neg hi]
        exact ev_some fun K => by simp only [impl_ReadRecs.l0]; rw [if_neg (by omega)]
  exact main (t.size + 1) 0 [] (by omega) (by omega) (by simp)
theorem sVar_ok (t : ByteArray) (a : Int) (hs : t.size ≤ 1048576) : Ev (fun k => spec_l06Var.f k t a false) (if (rvB t a).2.2 = true then ((rvB t a).1, t, (rvB t a).2.1, false) else (0, t, a, true)) := by
  unfold spec_l06Var.f
  refine ev_bind (sReadVar_ev t a (by omega)) ?_
  simp only [Bool.false_eq_true, if_false]
  by_cases h : (rvB t a).2.2 = true
  · simp only [if_pos h]; exact Ev.now _
  · simp only [if_neg h]; exact Ev.now _
theorem sVar_bad (t : ByteArray) (a : Int) (hs : t.size ≤ 1048576) : Ev (fun k => spec_l06Var.f k t a true) (0, t, a, true) := by
  unfold spec_l06Var.f
  refine ev_bind (sReadVar_ev t a (by omega)) ?_
  simp only [if_true]; exact Ev.now _
theorem sReadRecs_ev (t : ByteArray) (hs : t.size ≤ 1048576) : Ev (fun k => spec_ReadRecs.f k t) (rrB t (t.size + 1) 0 []) := by
  unfold spec_ReadRecs.f
  have main : ∀ (d i : Nat) (acc : List S45), t.size < i + d → i ≤ t.size → acc.length ≤ i → Ev (fun K => spec_ReadRecs.l0 K t acc t (i : Int) false) (rrB t d i acc) := by
    intro d
    induction d with
    | zero => intro i acc h1 h2 _; omega
    | succ d ih =>
      intro i acc h1 h2 h3
      unfold rrB
      by_cases hi : i < t.size
      · rw [if_pos hi]
        have hx := byt_get_lt t i
        have eb := bt_byt t i
        obtain ⟨d1, d2⟩ := div16 hx
        have A := rvB_range t ((i + 1 : Nat) : Int)
        have C := rvB_range t (rvB t ((i + 1 : Nat) : Int)).2.1
        have ea := sVar_ok t ((i + 1 : Nat) : Int) hs
        have ec := sVar_ok t (rvB t ((i + 1 : Nat) : Int)).2.1 hs
        refine Ev.step (f := fun K => spec_ReadRecs.j1 K t acc true t (i : Int) false) (fun K => by simp only [spec_ReadRecs.l0]; rw [if_pos (by omega)]; rfl) ?_
        refine Ev.step (f := fun K => (spec_l06Var.f K t ((i + 1 : Nat) : Int) false).bind fun bt124 => (spec_l06Var.f K bt124.2.1 bt124.2.2.1 bt124.2.2.2).bind fun bt129 => if bt129.2.2.2 = true then some ([], false) else (spec_RecOk.f K (((byt t).getD i 0 / 16 : Nat) : Int) (((byt t).getD i 0 % 16 : Nat) : Int) bt124.1 bt129.1).bind fun t136 => if t136 = true then spec_ReadRecs.l0 K t (acc ++ [(⟨(((byt t).getD i 0 / 16 : Nat) : Int), (((byt t).getD i 0 % 16 : Nat) : Int), bt124.1, bt129.1⟩ : S45)]) bt129.2.1 bt129.2.2.1 bt129.2.2.2 else some ([], false)) (fun K => ?_) (ev_bind ea ?_)
        · simp only [spec_ReadRecs.j1]
          rw [if_pos trivial, if_pos (by omega), if_pos (by omega), wsucc (n := t.size) hi (by omega), eb, d1, d2]
          simp only [if_pos (show acc.length < 4398046511104 by omega)]
        · unfold recMay
          rcases A with ⟨h4, h5⟩ | ⟨h4, h5⟩
          · simp only [h4, Bool.false_eq_true, if_false, Bool.false_and]
            refine ev_bind (sVar_bad t _ hs) ?_
            simp only [if_true]; exact Ev.now _
          · simp only [h4, if_true, Bool.true_and]
            refine ev_bind ec ?_
            rcases C with ⟨h6, h7⟩ | ⟨h6, h7⟩
            · simp only [h6, Bool.false_eq_true, if_false, Bool.false_and, if_true]; exact Ev.now _
            · simp only [h6, if_true, Bool.true_and, Bool.false_eq_true, if_false]
              refine ev_bind (sRecOk_ev _ _ _ _) ?_
              show Ev (fun K => if recOk (recAt t i).f0 (recAt t i).f1 (recAt t i).f2 (recAt t i).f3 = true then spec_ReadRecs.l0 K t (acc ++ [recAt t i]) t (recEnd t i) false else some ([], false)) _
              by_cases h8 : recOk (recAt t i).f0 (recAt t i).f1 (recAt t i).f2 (recAt t i).f3 = true
              · simp only [if_pos h8]
                have h9 : recEnd t i = (((recEnd t i).toNat : Nat) : Int) := by unfold recEnd; omega
                rw [h9, Int.toNat_natCast]
                exact ih (recEnd t i).toNat (acc ++ [recAt t i]) (by unfold recEnd; omega) (by unfold recEnd; omega) (by simp only [List.length_append, List.length_cons, List.length_nil]; unfold recEnd; omega)
              · simp only [if_neg h8]; exact Ev.now _
      · rw [if_neg hi]
        refine Ev.step (f := fun K => spec_ReadRecs.j1 K t acc false t (i : Int) false) (fun K => by simp only [spec_ReadRecs.l0]; rw [if_neg (by omega)]) (ev_some fun K => ?_)
        simp only [spec_ReadRecs.j1]
        rfl
  exact main (t.size + 1) 0 [] (by omega) (by omega) (by simp)
end Go.Proofs.Ytodokejcmbjpbaa.Pu

/- What is gathered of pages, as one function; the program's Gather tells it. -/
namespace Go.Proofs.Ytodokejcmbjpbaa.Pu
open Go.RowKit Go.Proofs.Ytodokejcmbjpbaa.PK Go.Proofs.YtodokejcmbjpbaaW.PrintWords
theorem rdIF_nat (l : List S36) (i : Nat) : rd_T36 l (i : Int) = l.getD i z36 := rfl
theorem dropG {α : Type} {l : List α} {i : Nat} (z : α) (h : i < l.length) : l.drop i = l.getD i z :: l.drop (i + 1) := by
  rw [List.drop_eq_getElem_cons h, List.getD_eq_getElem?_getD, List.getElem?_eq_getElem h]; rfl
theorem memG_cons_ne {x y : Int} {t : List Int} (h : ¬ y = x) : decide (x ∈ y :: t) = decide (x ∈ t) := by
  have : ¬ x = y := fun e => h e.symm
  simp [this]
theorem hasG_ev (l : List Int) (x : Int) (hl : l.length ≤ 9223372036854775807) : Ev (fun k => impl_hasInt.f k l x) (decide (x ∈ l)) := by
  have main : ∀ (d i : Nat), i + d = l.length → Ev (fun k => impl_hasInt.l0 k x l l.length (i : Int)) (decide (x ∈ l.drop i)) := by
    intro d
    induction d with
    | zero => intro i hi; exact ev_some fun k => by simp only [impl_hasInt.l0]; rw [if_neg (by omega), List.drop_eq_nil_of_le (by omega)]; simp
    | succ d ih =>
      intro i hi
      have hil : i < l.length := by omega
      rw [dropG 0 hil]
      by_cases h : l.getD i 0 = x
      · rw [h, decide_eq_true (List.mem_cons_self)]
        refine ev_some fun k => ?_
        simp only [impl_hasInt.l0]
        rw [if_pos (by omega), if_pos (by omega), if_pos (by omega), show rd l (i : Int) = l.getD i 0 from rfl, if_pos h]
      · rw [memG_cons_ne h]
        refine Ev.step (fun k => ?_) (ih (i + 1) (by omega))
        simp only [impl_hasInt.l0]
        rw [if_pos (by omega), if_pos (by omega), if_pos (by omega), show rd l (i : Int) = l.getD i 0 from rfl, if_neg h, wsucc (n := l.length) hil hl]
  have h := main l.length 0 (by omega)
  rw [List.drop_zero] at h
  exact h
/-- The page of a transaction with a part, and a count where that is told. -/
def metaT (x p c : Int) (f : S36) : Bool := decide (f.f2.f0 = 2) && (decide (f.f2.f2 = x) && (decide (f.f2.f3 = p) && (decide (c = 0) || decide (f.f2.f4 = c))))
def metaB (l : List S36) (x p c : Int) : Option S33 := (l.find? (metaT x p c)).map fun f => f.f2
def metaR : Option S33 → Int × Int × Int × Int × Int × ByteArray × Bool
  | none => (0, 0, 0, 0, 0, ⟨#[]⟩, false)
  | some q => (q.f0, q.f1, q.f2, q.f3, q.f4, q.f5, true)
theorem iMeta_ev (l : List S36) (x p c : Int) (hl : l.length ≤ 9223372036854775807) : Ev (fun k => impl_metaOf.f k l x p c) (metaR (metaB l x p c)) := by
  have main : ∀ (d i : Nat), i + d = l.length → Ev (fun k => impl_metaOf.l0 k x p c l l.length (i : Int)) (metaR (metaB (l.drop i) x p c)) := by
    intro d
    induction d with
    | zero => intro i hi; exact ev_some fun k => by simp only [impl_metaOf.l0]; rw [if_neg (by omega), List.drop_eq_nil_of_le (by omega)]; rfl
    | succ d ih =>
      intro i hi
      have hil : i < l.length := by omega
      have st : ∀ k, impl_metaOf.l0 (k + 1) x p c l l.length (i : Int) = if metaT x p c (l.getD i z36) = true then some (metaR (some (l.getD i z36).f2)) else impl_metaOf.l0 k x p c l l.length ((i + 1 : Nat) : Int) := fun k => by
        simp only [impl_metaOf.l0]
        rw [if_pos (by omega), if_pos (by omega), if_pos (by omega), rdIF_nat, wsucc (n := l.length) hil hl]
        unfold metaT metaR
        generalize l.getD i z36 = f
        by_cases h1 : f.f2.f0 = 2
        · by_cases h2 : f.f2.f2 = x
          · by_cases h3 : f.f2.f3 = p
            · by_cases h4 : c = 0
              · simp [h1, h2, h3, h4]
              · by_cases h5 : f.f2.f4 = c <;> simp [h1, h2, h3, h4, h5]
            · simp [h1, h2, h3]
          · simp [h1, h2]
        · simp [h1]
      rw [dropG z36 hil]
      unfold metaB
      rw [List.find?_cons]
      by_cases h : metaT x p c (l.getD i z36) = true
      · rw [h]
        exact ev_some fun k => by rw [st k, if_pos h]; rfl
      · rw [Bool.eq_false_iff.mpr h]
        exact Ev.step (fun k => by rw [st k, if_neg h]) (ih (i + 1) (by omega))
  have h := main l.length 0 (by omega)
  rw [List.drop_zero] at h
  exact h
theorem meta_mem {l : List S36} {x p c : Int} {q : S33} (h : metaB l x p c = some q) : ∃ f ∈ l, f.f2 = q ∧ metaT x p c f = true := by
  unfold metaB at h
  cases e : l.find? (metaT x p c) with
  | none => rw [e] at h; cases h
  | some f =>
    rw [e] at h
    injection h with h
    exact ⟨f, List.mem_of_find?_eq_some e, h, List.find?_some e⟩
def goB (l : List S36) (x c : Int) : Nat → Int → ByteArray → Int → Option (ByteArray × Int)
  | 0, _, t, s => some (t, s)
  | d + 1, p, t, s => match metaB l x p c with
    | none => none
    | some q => goB l x c d (p + 1) (t ++ q.f5) (mn s q.f1)
def rrT (t : ByteArray) : List S45 × Bool := rrB t (t.size + 1) 0 []
def txB (l : List S36) (x : Int) : Int × Int × List S45 × Bool := match metaB l x 0 0 with
  | none => (0, 0, [], false)
  | some q => match goB l x q.f4 (q.f4 - 1).toNat 1 q.f5 q.f1 with
    | none => (0, 0, [], false)
    | some (t, s) => (x, s, (rrT t).1, (rrT t).2)
/-- The texts of all pages whose part is below p. -/
def belowN (l : List S36) (p : Int) : Nat := ((l.filter fun f => decide (f.f2.f3 < p)).map fun f => f.f2.f5.size).sum
def sizesN (l : List S36) : Nat := (l.map fun f => f.f2.f5.size).sum
theorem below_cons (f : S36) (l : List S36) (p : Int) : belowN (f :: l) p = (if f.f2.f3 < p then f.f2.f5.size else 0) + belowN l p := by
  unfold belowN
  rw [List.filter_cons]
  by_cases h : f.f2.f3 < p
  · rw [if_pos (decide_eq_true h), if_pos h]; rfl
  · rw [if_neg (by rw [decide_eq_false h]; decide), if_neg h, Nat.zero_add]
theorem below_le (l : List S36) (p : Int) : belowN l p ≤ sizesN l := by
  induction l with
  | nil => exact Nat.le_refl _
  | cons f l ih =>
    rw [below_cons]
    have e : sizesN (f :: l) = f.f2.f5.size + sizesN l := rfl
    rw [e]
    split <;> omega
theorem below_step {l : List S36} {p : Int} {f : S36} (hf : f ∈ l) (hp : f.f2.f3 = p) : belowN l p + f.f2.f5.size ≤ belowN l (p + 1) := by
  induction l with
  | nil => cases hf
  | cons g l ih =>
    rw [below_cons, below_cons]
    have mono : belowN l p ≤ belowN l (p + 1) := by
      clear ih hf
      induction l with
      | nil => exact Nat.le_refl _
      | cons h l ih =>
        rw [below_cons, below_cons]
        by_cases h1 : h.f2.f3 < p
        · rw [if_pos h1, if_pos (by omega)]; omega
        · rw [if_neg h1]; omega
    rcases List.mem_cons.1 hf with rfl | hf
    · rw [if_neg (by omega), if_pos (by omega)]; omega
    · have h2 := ih hf
      by_cases h1 : g.f2.f3 < p
      · rw [if_pos h1, if_pos (by omega)]; omega
      · rw [if_neg h1]; omega
theorem iGathered_ev (l : List S36) (x : Int) (hl : l.length ≤ 9223372036854775807) (hs : sizesN l ≤ 1048576) (hc : ∀ f ∈ l, f.f2.f4 ≤ 9223372036854775807) : Ev (fun k => impl_gathered.f k l x) (txB l x) := by
  unfold impl_gathered.f txB
  refine ev_bind (iMeta_ev l x 0 0 hl) ?_
  cases e : metaB l x 0 0 with
  | none => exact Ev.now _
  | some q =>
    obtain ⟨f, hf, rfl, ht⟩ := meta_mem e
    unfold metaT at ht
    simp only [Bool.and_eq_true, decide_eq_true_eq] at ht
    show Ev (fun k => if true = true then impl_gathered.l0 k l x f.f2.f5 f.f2.f1 1 f.f2.f0 f.f2.f1 f.f2.f2 f.f2.f3 f.f2.f4 f.f2.f5 else _) _
    simp only [if_true]
    have main : ∀ (d : Nat) (p : Int) (t : ByteArray) (s : Int), 1 ≤ p → p + d ≤ 9223372036854775807 → (p + d = f.f2.f4 ∨ d = 0 ∧ f.f2.f4 ≤ p) → t.size ≤ belowN l p → Ev (fun k => impl_gathered.l0 k l x t s p f.f2.f0 f.f2.f1 f.f2.f2 f.f2.f3 f.f2.f4 f.f2.f5) (match goB l x f.f2.f4 d p t s with | none => (0, 0, [], false) | some (t, s) => (x, s, (rrT t).1, (rrT t).2)) := by
      intro d
      induction d with
      | zero =>
        intro p t s h1 h2 h3 h4
        have hb := below_le l p
        unfold goB
        refine Ev.step (f := fun k => (impl_ReadRecs.f k t).bind fun bt451 => some (x, s, bt451.1, bt451.2)) (fun k => by simp only [impl_gathered.l0]; rw [if_neg (by omega)]) (ev_bind (iReadRecs_ev t (by omega)) (Ev.now _))
      | succ d ih =>
        intro p t s h1 h2 h3 h4
        have hp : p < f.f2.f4 := by omega
        unfold goB
        refine Ev.step (f := fun k => (impl_metaOf.f k l x p f.f2.f4).bind fun bt443 => if bt443.2.2.2.2.2.2 = true then (if t.size + bt443.2.2.2.2.2.1.size ≤ 9223372036854775807 then impl_gathered.l0 k l x (t ++ bt443.2.2.2.2.2.1) (mn s bt443.2.1) (p + 1) f.f2.f0 f.f2.f1 f.f2.f2 f.f2.f3 f.f2.f4 f.f2.f5 else none) else some (0, 0, [], false)) (fun k => by simp only [impl_gathered.l0]; rw [if_pos hp, w64 (x := p + 1) (by omega) (by omega)]) (ev_bind (iMeta_ev l x p f.f2.f4 hl) ?_)
        cases e2 : metaB l x p f.f2.f4 with
        | none => exact Ev.now _
        | some q =>
          obtain ⟨g, hg, rfl, hgt⟩ := meta_mem e2
          unfold metaT at hgt
          simp only [Bool.and_eq_true, decide_eq_true_eq] at hgt
          have hb := below_step hg hgt.2.2.1
          have hb2 := below_le l (p + 1)
          show Ev (fun k => if true = true then (if t.size + g.f2.f5.size ≤ 9223372036854775807 then impl_gathered.l0 k l x (t ++ g.f2.f5) (mn s g.f2.f1) (p + 1) f.f2.f0 f.f2.f1 f.f2.f2 f.f2.f3 f.f2.f4 f.f2.f5 else none) else some (0, 0, [], false)) _
          simp only [if_true, if_pos (show t.size + g.f2.f5.size ≤ 9223372036854775807 by omega)]
          exact ih (p + 1) _ _ (by omega) (by omega) (by omega) (by rw [ByteArray.size_append]; omega)
    have hb := below_step hf ht.2.2.1
    have hcf := hc f hf
    by_cases h1 : f.f2.f4 ≤ 1
    · rw [show (f.f2.f4 - 1).toNat = 0 by omega]
      refine main 0 1 f.f2.f5 f.f2.f1 (by omega) (by omega) (.inr ⟨rfl, h1⟩) ?_
      have : belowN l 0 + f.f2.f5.size ≤ belowN l 1 := hb
      omega
    · refine main (f.f2.f4 - 1).toNat 1 f.f2.f5 f.f2.f1 (by omega) (by omega) (.inl (by omega)) ?_
      have : belowN l 0 + f.f2.f5.size ≤ belowN l 1 := hb
      omega
def numF (s : List Int) (f : S36) : List Int := if f.f2.f0 = 2 ∧ ¬ f.f2.f2 ∈ s then s ++ [f.f2.f2] else s
def numsB (l : List S36) : List Int := l.foldl numF []
def sortB (l : List Int) : List Int := l.mergeSort fun x y => decide (x ≤ y)
def outF (l : List S36) (n : Int) : List S40 := if (txB l n).2.2.2 = true then [⟨(txB l n).1, (txB l n).2.1, (txB l n).2.2.1⟩] else []
def gatherB (l : List S36) : List S40 := (sortB (numsB l)).flatMap (outF l)
theorem iGather_ev (l : List S36) (hl : l.length ≤ 1048576) (hs : sizesN l ≤ 1048576) (hc : ∀ f ∈ l, f.f2.f4 ≤ 9223372036854775807) : Ev (fun k => impl_Gather.f k l) (gatherB l) := by
  unfold impl_Gather.f gatherB
  have two : ∀ (L : List Int), L.length ≤ 1048576 → ∀ (d i : Nat) (acc : List S40), i + d = L.length → acc.length ≤ i → Ev (fun k => impl_Gather.l1 k l acc L (L.length : Int) (i : Int)) (acc ++ (L.drop i).flatMap (outF l)) := by
    intro L hL d
    induction d with
    | zero =>
      intro i acc hi ha
      rw [List.drop_eq_nil_of_le (by omega)]
      exact ev_some fun k => by simp only [impl_Gather.l1]; rw [if_neg (by omega)]; simp
    | succ d ih =>
      intro i acc hi ha
      have hil : i < L.length := by omega
      rw [dropG 0 hil, List.flatMap_cons]
      refine Ev.step (f := fun k => (impl_gathered.f k l (L.getD i 0)).bind fun bt463 => if bt463.2.2.2 = true then impl_Gather.l1 k l (acc ++ [(⟨bt463.1, bt463.2.1, bt463.2.2.1⟩ : S40)]) L (L.length : Int) ((i + 1 : Nat) : Int) else impl_Gather.l1 k l acc L (L.length : Int) ((i + 1 : Nat) : Int)) (fun k => ?_) (ev_bind (iGathered_ev l (L.getD i 0) (by omega) hs hc) ?_)
      · simp only [impl_Gather.l1]
        rw [if_pos (by omega), if_pos (by omega), if_pos (by omega), show rd L (i : Int) = L.getD i 0 from rfl, wsucc (n := L.length) hil (by omega)]
        simp only [if_pos (show acc.length < 3518437208883 by omega)]
      · unfold outF
        by_cases h : (txB l (L.getD i 0)).2.2.2 = true
        · simp only [if_pos h]
          have := ih (i + 1) (acc ++ [(⟨(txB l (L.getD i 0)).1, (txB l (L.getD i 0)).2.1, (txB l (L.getD i 0)).2.2.1⟩ : S40)]) (by omega) (by simp; omega)
          rw [List.append_assoc] at this
          exact this
        · simp only [if_neg h]
          exact ih (i + 1) acc (by omega) (by omega)
  have one : ∀ (d i : Nat) (s : List Int), i + d = l.length → s.length ≤ i → Ev (fun k => impl_Gather.l0 k l s l (l.length : Int) (i : Int)) ((sortB ((l.drop i).foldl numF s)).flatMap (outF l)) := by
    intro d
    induction d with
    | zero =>
      intro i s hi ha
      rw [List.drop_eq_nil_of_le (by omega), List.foldl_nil]
      have hlen : (sortB s).length = s.length := List.length_mergeSort s
      have h2 := two (sortB s) (by omega) (sortB s).length 0 [] (by omega) (by simp)
      rw [List.drop_zero, List.nil_append, hlen] at h2
      refine Ev.step (f := fun k => (sort_Ints.f k s).bind fun t461 => impl_Gather.l1 k l [] t461 (s.length : Int) 0) (fun k => by simp only [impl_Gather.l0]; rw [if_neg (by omega)]) (ev_bind (ev_ext (f := fun _ => some (sortB s)) (fun _ => if_pos (by omega)) (Ev.now _)) h2)
    | succ d ih =>
      intro i s hi ha
      have hil : i < l.length := by omega
      rw [dropG z36 hil, List.foldl_cons]
      unfold numF
      by_cases h : (l.getD i z36).f2.f0 = 2
      · refine Ev.step (f := fun k => (impl_hasInt.f k s (l.getD i z36).f2.f2).bind fun t457 => if t457 = true then impl_Gather.l0 k l s l (l.length : Int) ((i + 1 : Nat) : Int) else impl_Gather.l0 k l (s ++ [(l.getD i z36).f2.f2]) l (l.length : Int) ((i + 1 : Nat) : Int)) (fun k => ?_) (ev_bind (hasG_ev s _ (by omega)) ?_)
        · simp only [impl_Gather.l0]
          rw [if_pos (by omega), if_pos (by omega), if_pos (by omega), rdIF_nat, if_pos h, wsucc (n := l.length) hil (by omega)]
          simp only [if_pos (show s.length < 17592186044416 by omega)]
        · by_cases h2 : (l.getD i z36).f2.f2 ∈ s
          · rw [if_neg (fun g => g.2 h2), decide_eq_true h2]
            simp only [if_true]
            exact ih (i + 1) s (by omega) (by omega)
          · rw [if_pos ⟨h, h2⟩, decide_eq_false h2]
            simp only [Bool.false_eq_true, if_false]
            exact ih (i + 1) _ (by omega) (by simp; omega)
      · rw [if_neg (fun g => h g.1)]
        refine Ev.step (fun k => ?_) (ih (i + 1) s (by omega) (by omega))
        simp only [impl_Gather.l0]
        rw [if_pos (by omega), if_pos (by omega), if_pos (by omega), rdIF_nat, if_neg h, wsucc (n := l.length) hil (by omega)]
  have h := one l.length 0 [] (by omega) (by simp)
  rw [List.drop_zero] at h
  exact h
end Go.Proofs.Ytodokejcmbjpbaa.Pu

/- The reference's Gather tells the same. -/
namespace Go.Proofs.Ytodokejcmbjpbaa.Pu
open Go.RowKit Go.Proofs.Ytodokejcmbjpbaa.PK Go.Proofs.YtodokejcmbjpbaaW.PrintWords
/-- A number put into an ascending list. -/
def insB (s : List Int) (x : Int) : List Int := (s.filter fun y => decide (y < x)) ++ [x] ++ s.filter fun y => decide (y > x)
def Asc (l : List Int) : Prop := l.Pairwise (· < ·)
theorem ins_asc {s : List Int} (x : Int) (h : Asc s) : Asc (insB s x) := by
  unfold Asc insB
  rw [List.append_assoc, List.pairwise_append]
  refine ⟨List.Pairwise.filter _ h, ?_, ?_⟩
  · rw [List.singleton_append, List.pairwise_cons]
    exact ⟨fun y hy => by have := (List.mem_filter.1 hy).2; simpa using this, List.Pairwise.filter _ h⟩
  · intro a ha b hb
    have h1 : a < x := by have := (List.mem_filter.1 ha).2; simpa using this
    rcases List.mem_cons.1 hb with rfl | hb
    · exact h1
    · have h2 : b > x := by have := (List.mem_filter.1 hb).2; simpa using this
      omega
theorem ins_mem {s : List Int} {x y : Int} : y ∈ insB s x ↔ y ∈ s ∨ y = x := by
  unfold insB
  simp only [List.mem_append, List.mem_filter, List.mem_singleton, decide_eq_true_eq]
  constructor
  · rintro ((⟨h, _⟩ | h) | ⟨h, _⟩)
    · exact .inl h
    · exact .inr h
    · exact .inl h
  · rintro (h | h)
    · rcases Int.lt_trichotomy y x with h2 | h2 | h2
      · exact .inl (.inl ⟨h, h2⟩)
      · exact .inl (.inr h2)
      · exact .inr ⟨h, h2⟩
    · exact .inl (.inr h)
theorem ins_len {s : List Int} (x : Int) : (insB s x).length ≤ s.length * 2 + 1 := by
  unfold insB
  have h1 := List.length_filter_le (fun y => decide (y < x)) s
  have h2 := List.length_filter_le (fun y => decide (y > x)) s
  simp only [List.length_append, List.length_singleton]
  omega
theorem asc_len : ∀ {s : List Int} {m : List Int}, Asc s → (∀ y ∈ s, y ∈ m) → s.length ≤ m.length
  | [], _, _, _ => Nat.zero_le _
  | x :: s, m, h, hm => by
    obtain ⟨h1, h2⟩ := List.pairwise_cons.1 h
    have hx := hm x List.mem_cons_self
    have := asc_len (s := s) (m := m.erase x) h2 fun y hy => (List.mem_erase_of_ne (by have := h1 y hy; omega)).2 (hm y (List.mem_cons_of_mem _ hy))
    rw [List.length_erase_of_mem hx] at this
    have hp := List.length_pos_of_mem hx
    simp only [List.length_cons]
    omega
/-- Ascending lists of the same numbers are one. -/
theorem asc_eq : ∀ {s t : List Int}, Asc s → Asc t → (∀ y, y ∈ s ↔ y ∈ t) → s = t
  | [], [], _, _, _ => rfl
  | [], y :: t, _, _, h => by have := (h y).2 List.mem_cons_self; cases this
  | x :: s, [], _, _, h => by have := (h x).1 List.mem_cons_self; cases this
  | x :: s, y :: t, hs, ht, h => by
    obtain ⟨s1, s2⟩ := List.pairwise_cons.1 hs
    obtain ⟨t1, t2⟩ := List.pairwise_cons.1 ht
    have e : x = y := by
      have h1 := (h x).1 List.mem_cons_self
      have h2 := (h y).2 List.mem_cons_self
      rcases List.mem_cons.1 h1 with h1 | h1
      · exact h1
      · rcases List.mem_cons.1 h2 with h2 | h2
        · exact h2.symm
        · have := t1 x h1; have := s1 y h2; omega
    subst e
    rw [asc_eq s2 t2 fun z => by
      constructor
      · intro hz
        rcases List.mem_cons.1 ((h z).1 (List.mem_cons_of_mem _ hz)) with rfl | h3
        · have := s1 z hz; omega
        · exact h3
      · intro hz
        rcases List.mem_cons.1 ((h z).2 (List.mem_cons_of_mem _ hz)) with rfl | h3
        · have := t1 z hz; omega
        · exact h3]
def numG (s : List Int) (f : S36) : List Int := if f.f2.f0 = 2 then insB s f.f2.f2 else s
theorem numG_asc : ∀ (l : List S36) (s : List Int), Asc s → Asc (l.foldl numG s)
  | [], s, h => h
  | f :: l, s, h => by
    rw [List.foldl_cons]
    refine numG_asc l _ ?_
    unfold numG
    split
    · exact ins_asc _ h
    · exact h
theorem numG_mem : ∀ (l : List S36) (s : List Int) (y : Int), y ∈ l.foldl numG s ↔ y ∈ s ∨ ∃ f ∈ l, f.f2.f0 = 2 ∧ f.f2.f2 = y
  | [], s, y => by simp
  | f :: l, s, y => by
    rw [List.foldl_cons, numG_mem l]
    unfold numG
    by_cases h : f.f2.f0 = 2
    · rw [if_pos h, ins_mem]
      constructor
      · rintro ((h1 | h1) | ⟨g, h1, h2⟩)
        · exact .inl h1
        · exact .inr ⟨f, List.mem_cons_self, h, h1.symm⟩
        · exact .inr ⟨g, List.mem_cons_of_mem _ h1, h2⟩
      · rintro (h1 | ⟨g, h1, h2⟩)
        · exact .inl (.inl h1)
        · rcases List.mem_cons.1 h1 with rfl | h1
          · exact .inl (.inr h2.2.symm)
          · exact .inr ⟨g, h1, h2⟩
    · rw [if_neg h]
      constructor
      · rintro (h1 | ⟨g, h1, h2⟩)
        · exact .inl h1
        · exact .inr ⟨g, List.mem_cons_of_mem _ h1, h2⟩
      · rintro (h1 | ⟨g, h1, h2⟩)
        · exact .inl h1
        · rcases List.mem_cons.1 h1 with rfl | h1
          · exact absurd h2.1 h
          · exact .inr ⟨g, h1, h2⟩
theorem numF_mem : ∀ (l : List S36) (s : List Int) (y : Int), y ∈ l.foldl numF s ↔ y ∈ s ∨ ∃ f ∈ l, f.f2.f0 = 2 ∧ f.f2.f2 = y
  | [], s, y => by simp
  | f :: l, s, y => by
    rw [List.foldl_cons, numF_mem l]
    have e : y ∈ numF s f ↔ y ∈ s ∨ (f.f2.f0 = 2 ∧ f.f2.f2 = y) := by
      unfold numF
      by_cases h : f.f2.f0 = 2 ∧ ¬ f.f2.f2 ∈ s
      · rw [if_pos h, List.mem_append, List.mem_singleton]
        constructor
        · rintro (h1 | h1)
          · exact .inl h1
          · exact .inr ⟨h.1, h1.symm⟩
        · rintro (h1 | h1)
          · exact .inl h1
          · exact .inr h1.2.symm
      · rw [if_neg h]
        constructor
        · exact .inl
        · rintro (h1 | ⟨h1, rfl⟩)
          · exact h1
          · by_cases h2 : f.f2.f2 ∈ s
            · exact h2
            · exact absurd ⟨h1, h2⟩ h
    rw [e]
    constructor
    · rintro ((h1 | h1) | ⟨g, h1, h2⟩)
      · exact .inl h1
      · exact .inr ⟨f, List.mem_cons_self, h1⟩
      · exact .inr ⟨g, List.mem_cons_of_mem _ h1, h2⟩
    · rintro (h1 | ⟨g, h1, h2⟩)
      · exact .inl (.inl h1)
      · rcases List.mem_cons.1 h1 with rfl | h1
        · exact .inl (.inr h2)
        · exact .inr ⟨g, h1, h2⟩
theorem numF_nodup : ∀ (l : List S36) (s : List Int), s.Nodup → (l.foldl numF s).Nodup
  | [], s, h => h
  | f :: l, s, h => by
    rw [List.foldl_cons]
    refine numF_nodup l _ ?_
    unfold numF
    split
    · rename_i h2
      rw [List.nodup_append]
      exact ⟨h, by simp, fun a ha b hb => by obtain rfl := List.mem_singleton.1 hb; rintro rfl; exact h2.2 ha⟩
    · exact h
theorem sort_asc {l : List Int} (h : l.Nodup) : Asc (sortB l) := by
  have hs : (sortB l).Pairwise fun a b => decide (a ≤ b) = true := List.pairwise_mergeSort (le := fun x y : Int => decide (x ≤ y)) (fun a b c h1 h2 => by simp at *; omega) (fun a b => by simp; omega) l
  have hn : (sortB l).Nodup := (List.mergeSort_perm l _).nodup_iff.2 h
  unfold Asc
  refine (List.Pairwise.and hs hn).imp fun ⟨h1, h2⟩ => ?_
  have h1 : _ ≤ _ := of_decide_eq_true h1
  have h2 : _ ≠ _ := h2
  omega
theorem nums_eq (l : List S36) : sortB (numsB l) = l.foldl numG [] := by
  refine asc_eq (sort_asc (numF_nodup l [] List.nodup_nil)) (numG_asc l [] List.Pairwise.nil) fun y => ?_
  unfold numsB
  rw [numG_mem, ← numF_mem]
  exact (List.mergeSort_perm (l.foldl numF []) _).mem_iff
theorem nums_le (l : List S36) (s : List Int) (h : Asc s) : (l.foldl numG s).length ≤ s.length + l.length := by
  have := asc_len (m := s ++ l.map fun f => f.f2.f2) (numG_asc l s h) fun y hy => by
    rcases (numG_mem l s y).1 hy with hy | ⟨f, hf, _, rfl⟩
    · exact List.mem_append.2 (.inl hy)
    · exact List.mem_append.2 (.inr (List.mem_map.2 ⟨f, hf, rfl⟩))
  simpa using this

theorem sTx1_found (l : List S36) (x c p a b : Int) (t : ByteArray) (hl : l.length ≤ 1048576) (r : Int × Int × List S45 × Bool) (hp0 : 0 ≤ p) (hp1 : p < 9223372036854775807)
    (hr : Ev (fun k => spec_l10Tx.l0 k l x c t (p + 1) a b) r) : ∀ (d i : Nat), i + d = l.length → Ev (fun k => spec_l10Tx.l1 k l x c t p true (i : Int) a b) r := by
  intro d i hi
  by_cases h : i < l.length
  · refine Ev.step (f := fun k => spec_l10Tx.j3 k l x c t p true (i : Int) false a b) (fun k => by simp only [spec_l10Tx.l1]; rw [if_pos (by omega)]; rfl) (Ev.step (fun k => ?_) hr)
    simp only [spec_l10Tx.j3]
    rw [if_neg (by decide), if_pos trivial, w64 (by omega) (by omega)]
  · refine Ev.step (f := fun k => spec_l10Tx.j3 k l x c t p true (i : Int) false a b) (fun k => by simp only [spec_l10Tx.l1]; rw [if_neg (by omega)]) (Ev.step (fun k => ?_) hr)
    simp only [spec_l10Tx.j3]
    rw [if_neg (by decide), if_pos trivial, w64 (by omega) (by omega)]
theorem sTx1_ev (l : List S36) (x c p a b : Int) (t : ByteArray) (hl : l.length ≤ 1048576) (hp0 : 0 ≤ p) (hp1 : p < 9223372036854775807) (hc : 0 < p → c ≠ 0) (ht : ∀ f ∈ l, f.f2.f3 = p → t.size + f.f2.f5.size ≤ 9223372036854775807) (r : Int × Int × List S45 × Bool) :
    ∀ (d i : Nat), i + d = l.length → (match metaB (l.drop i) x p (if 0 < p then c else 0) with | none => r = (a, b, [], false) | some q => Ev (fun k => spec_l10Tx.l0 k l x q.f4 (t ++ q.f5) (p + 1) a (if p = 0 then q.f1 else if q.f1 < b then q.f1 else b)) r) → Ev (fun k => spec_l10Tx.l1 k l x c t p false (i : Int) a b) r := by
  intro d
  induction d with
  | zero =>
    intro i hi hr
    rw [List.drop_eq_nil_of_le (by omega)] at hr
    have hr : r = (a, b, [], false) := hr
    refine Ev.step (f := fun k => spec_l10Tx.j3 k l x c t p false (i : Int) false a b) (fun k => by simp only [spec_l10Tx.l1]; rw [if_neg (by omega)]) (ev_some fun k => ?_)
    simp only [spec_l10Tx.j3]
    rw [hr]; rfl
  | succ d ih =>
    intro i hi hr
    have hil : i < l.length := by omega
    rw [dropG z36 hil] at hr
    have hm := getD_mem' (z := z36) hil
    unfold metaB at hr
    rw [List.find?_cons] at hr
    refine Ev.step (f := fun k => spec_l10Tx.j3 k l x c t p false (i : Int) true a b) (fun k => by simp only [spec_l10Tx.l1]; rw [if_pos (by omega)]; rfl) ?_
    have wi : wrap64 ((i : Int) + 1) = ((i + 1 : Nat) : Int) := wsucc (n := l.length) hil (by omega)
    have htf := ht _ hm
    generalize hF : l.getD i z36 = f at hr htf
    have skip : metaT x p (if 0 < p then c else 0) f = false → ∀ q : Bool, q = true → Ev (fun k => spec_l10Tx.j4 k l x c t p false (i : Int) q a b f.f2.f0 f.f2.f1 f.f2.f2 f.f2.f3 f.f2.f4 f.f2.f5) r := fun hT q hq => by
      rw [hT] at hr
      refine Ev.step (fun k => ?_) (ih (i + 1) (by omega) hr)
      simp only [spec_l10Tx.j4]
      rw [if_pos hq, wi]
    have take : metaT x p (if 0 < p then c else 0) f = true → ∀ q : Bool, q = false → Ev (fun k => spec_l10Tx.j4 k l x c t p false (i : Int) q a b f.f2.f0 f.f2.f1 f.f2.f2 f.f2.f3 f.f2.f4 f.f2.f5) r := fun hT q hq => by
      rw [hT] at hr
      have hr : Ev (fun k => spec_l10Tx.l0 k l x f.f2.f4 (t ++ f.f2.f5) (p + 1) a (if p = 0 then f.f2.f1 else if f.f2.f1 < b then f.f2.f1 else b)) r := hr
      have h3 : f.f2.f3 = p := by
        unfold metaT at hT
        simp only [Bool.and_eq_true, decide_eq_true_eq] at hT
        exact hT.2.2.1
      have hz := htf h3
      have h := sTx1_found l x f.f2.f4 p a (if p = 0 then f.f2.f1 else if f.f2.f1 < b then f.f2.f1 else b) (t ++ f.f2.f5) hl r hp0 hp1 hr (l.length - (i + 1)) (i + 1) (by omega)
      refine Ev.step (fun k => ?_) h
      simp only [spec_l10Tx.j4]
      rw [if_neg (by rw [hq]; decide), if_pos hz, wi]
      by_cases h0 : p = 0
      · rw [if_pos h0, if_pos h0]
      · rw [if_neg h0, if_neg h0]
        by_cases h1 : f.f2.f1 < b
        · rw [if_pos h1, if_pos h1]
        · rw [if_neg h1, if_neg h1]
    have st : ∀ k, spec_l10Tx.j3 (k + 1) l x c t p false (i : Int) true a b = spec_l10Tx.j4 k l x c t p false (i : Int) (!(metaT x p (if 0 < p then c else 0) f)) a b f.f2.f0 f.f2.f1 f.f2.f2 f.f2.f3 f.f2.f4 f.f2.f5 := fun k => by
      simp only [spec_l10Tx.j3]
      rw [if_pos trivial, if_pos (by omega), if_pos (by omega), rdIF_nat, hF]
      unfold metaT
      by_cases h1 : f.f2.f0 = 2
      · by_cases h2 : f.f2.f2 = x
        · by_cases h3 : f.f2.f3 = p
          · by_cases h4 : 0 < p
            · have hc0 := hc h4
              rw [if_pos h1, if_pos h2, if_pos h3, if_pos h4, if_pos h4]
              by_cases h5 : f.f2.f4 = c
              · simp [h1, h2, h3, h5, hc0]
              · have h6 : (f.f2.f4 != c) = true := bne_iff_ne.mpr h5
                simp [h1, h2, h3, h5, hc0, h6]
            · rw [if_pos h1, if_pos h2, if_pos h3, if_neg h4, if_neg h4]
              simp [h1, h2, h3]
          · rw [if_pos h1, if_pos h2, if_neg h3]; simp [h3]
        · rw [if_pos h1, if_neg h2]; simp [h2]
      · rw [if_neg h1]; simp [h1]
    by_cases hT : metaT x p (if 0 < p then c else 0) f = true
    · exact Ev.step st (take hT _ (by rw [hT]; rfl))
    · exact Ev.step st (skip (Bool.eq_false_iff.mpr hT) _ (by rw [Bool.eq_false_iff.mpr hT]; rfl))
theorem mn_lt (b q : Int) : mn b q = if q < b then q else b := rfl
theorem sTx0_ev (l : List S36) (x c a : Int) (hl : l.length ≤ 1048576) (hs : sizesN l ≤ 1048576) (hcc : c ≤ 9223372036854775807) : ∀ (d : Nat) (p b : Int) (t : ByteArray), 1 ≤ p → (p + d = c ∨ d = 0 ∧ c ≤ p) → t.size ≤ belowN l p →
    ∃ R, Ev (fun k => spec_l10Tx.l0 k l x c t p a b) R ∧ (match goB l x c d p t b with | none => R.2.2.2 = false | some (t', s') => R = (a, s', (rrT t').1, (rrT t').2)) := by
  intro d
  induction d with
  | zero =>
    intro p b t h1 h2 h4
    have hb := below_le l p
    unfold goB
    refine ⟨(a, b, (rrT t).1, (rrT t).2), ?_, rfl⟩
    refine Ev.step (f := fun k => spec_l10Tx.j1 k l x c t p false a b) (fun k => by simp only [spec_l10Tx.l0]; rw [if_neg (by omega), decide_eq_false (by omega)]) ?_
    refine Ev.step (f := fun k => (spec_ReadRecs.f k t).bind fun bt691 => some (a, b, bt691.1, bt691.2)) (fun k => by simp only [spec_l10Tx.j1]; rfl) (ev_bind (sReadRecs_ev t (by omega)) (Ev.now _))
  | succ d ih =>
    intro p b t h1 h2 h4
    have hpc : p < c := by omega
    have h3 : p < 9223372036854775807 := by omega
    have ht : ∀ f ∈ l, f.f2.f3 = p → t.size + f.f2.f5.size ≤ 9223372036854775807 := fun f hf hp => by
      have := below_step hf hp
      have := below_le l (p + 1)
      omega
    unfold goB
    have main : ∀ r, (match metaB l x p c with | none => r = (a, b, [], false) | some q => Ev (fun k => spec_l10Tx.l0 k l x q.f4 (t ++ q.f5) (p + 1) a (if p = 0 then q.f1 else if q.f1 < b then q.f1 else b)) r) → Ev (fun k => spec_l10Tx.l0 k l x c t p a b) r := fun r hr => by
      have h := sTx1_ev l x c p a b t hl (by omega) h3 (fun _ => by omega) ht r l.length 0 (by omega)
      rw [List.drop_zero, if_pos (show 0 < p by omega)] at h
      refine Ev.step (f := fun k => spec_l10Tx.j1 k l x c t p true a b) (fun k => by simp only [spec_l10Tx.l0]; rw [if_neg (by omega), decide_eq_true hpc]) (Ev.step (fun k => ?_) (h hr))
      simp only [spec_l10Tx.j1]
      rfl
    cases e : metaB l x p c with
    | none =>
      rw [e] at main
      exact ⟨(a, b, [], false), main _ rfl, rfl⟩
    | some q =>
      rw [e] at main
      obtain ⟨f, hf, rfl, hT⟩ := meta_mem e
      unfold metaT at hT
      simp only [Bool.and_eq_true, Bool.or_eq_true, decide_eq_true_eq] at hT
      have hq4 : f.f2.f4 = c := by
        rcases hT.2.2.2 with h | h
        · omega
        · exact h
      have hb := below_step hf hT.2.2.1
      obtain ⟨R, r1, r2⟩ := ih (p + 1) (mn b f.f2.f1) (t ++ f.f2.f5) (by omega) (by omega) (by rw [ByteArray.size_append]; omega)
      refine ⟨R, main R ?_, r2⟩
      show Ev (fun k => spec_l10Tx.l0 k l x f.f2.f4 (t ++ f.f2.f5) (p + 1) a (if p = 0 then f.f2.f1 else if f.f2.f1 < b then f.f2.f1 else b)) R
      rw [hq4, if_neg (by omega), ← mn_lt]
      exact r1
theorem sL10_ev (l : List S36) (x : Int) (hl : l.length ≤ 1048576) (hs : sizesN l ≤ 1048576) (hcc : ∀ f ∈ l, f.f2.f4 ≤ 9223372036854775807) : ∃ R, Ev (fun k => spec_l10Tx.f k l x) R ∧ R.2.2.2 = (txB l x).2.2.2 ∧ ((txB l x).2.2.2 = true → R = txB l x) := by
  unfold spec_l10Tx.f
  have hz : (⟨#[]⟩ : ByteArray).size = 0 := rfl
  have main : ∀ r, (match metaB l x 0 0 with | none => r = (x, 0, [], false) | some q => Ev (fun k => spec_l10Tx.l0 k l x q.f4 ((⟨#[]⟩ : ByteArray) ++ q.f5) (0 + 1) x (if (0 : Int) = 0 then q.f1 else if q.f1 < 0 then q.f1 else 0)) r) → Ev (fun k => spec_l10Tx.l0 k l x 0 ⟨#[]⟩ 0 x 0) r := fun r hr => by
    have h := sTx1_ev l x 0 0 x 0 ⟨#[]⟩ hl (by omega) (by omega) (fun h => by omega) (fun f hf hp => by
      have := below_step hf hp
      have := below_le l (0 + 1)
      omega) r l.length 0 (by omega)
    rw [List.drop_zero, if_neg (show ¬ (0 : Int) < 0 by omega)] at h
    refine Ev.step (f := fun k => spec_l10Tx.j1 k l x 0 ⟨#[]⟩ 0 true x 0) (fun k => by simp only [spec_l10Tx.l0]; rfl) (Ev.step (fun k => ?_) (h hr))
    simp only [spec_l10Tx.j1]
    rfl
  unfold txB
  cases e : metaB l x 0 0 with
  | none =>
    rw [e] at main
    exact ⟨(x, 0, [], false), main _ rfl, rfl, fun h => by cases h⟩
  | some q =>
    rw [e] at main
    obtain ⟨f, hf, rfl, hT⟩ := meta_mem e
    unfold metaT at hT
    simp only [Bool.and_eq_true, decide_eq_true_eq] at hT
    have hb : belowN l 0 + f.f2.f5.size ≤ belowN l 1 := below_step hf hT.2.2.1
    have hcf := hcc f hf
    obtain ⟨R, r1, r2⟩ := sTx0_ev l x f.f2.f4 x hl hs hcf (f.f2.f4 - 1).toNat 1 f.f2.f1 f.f2.f5 (by omega) (by omega) (by omega)
    have hR : Ev (fun k => spec_l10Tx.l0 k l x 0 ⟨#[]⟩ 0 x 0) R := main R (by
      show Ev (fun k => spec_l10Tx.l0 k l x f.f2.f4 ((⟨#[]⟩ : ByteArray) ++ f.f2.f5) (0 + 1) x (if (0 : Int) = 0 then f.f2.f1 else if f.f2.f1 < 0 then f.f2.f1 else 0)) R
      rw [if_pos rfl, show (⟨#[]⟩ : ByteArray) ++ f.f2.f5 = f.f2.f5 from ByteArray.empty_append]
      exact r1)
    refine ⟨R, hR, ?_⟩
    show R.2.2.2 = (match goB l x f.f2.f4 (f.f2.f4 - 1).toNat 1 f.f2.f5 f.f2.f1 with | none => (0, 0, [], false) | some (t, s) => (x, s, (rrT t).1, (rrT t).2)).2.2.2 ∧ ((match goB l x f.f2.f4 (f.f2.f4 - 1).toNat 1 f.f2.f5 f.f2.f1 with | none => (0, 0, [], false) | some (t, s) => (x, s, (rrT t).1, (rrT t).2)).2.2.2 = true → R = (match goB l x f.f2.f4 (f.f2.f4 - 1).toNat 1 f.f2.f5 f.f2.f1 with | none => (0, 0, [], false) | some (t, s) => (x, s, (rrT t).1, (rrT t).2)))
    cases eg : goB l x f.f2.f4 (f.f2.f4 - 1).toNat 1 f.f2.f5 f.f2.f1 with
    | none => rw [eg] at r2; exact ⟨r2, fun h => by cases h⟩
    | some z =>
      obtain ⟨t', s'⟩ := z
      rw [eg] at r2
      have r2 : R = (x, s', (rrT t').1, (rrT t').2) := r2
      rw [r2]
      exact ⟨rfl, fun _ => rfl⟩
theorem sGather_ev (l : List S36) (hl : l.length ≤ 1048576) (hs : sizesN l ≤ 1048576) (hcc : ∀ f ∈ l, f.f2.f4 ≤ 9223372036854775807) : Ev (fun k => spec_Gather.f k l) (gatherB l) := by
  unfold spec_Gather.f gatherB
  rw [nums_eq]
  have three : ∀ (L : List Int), L.length ≤ 1048576 → ∀ (d i : Nat) (acc : List S40), i + d = L.length → acc.length ≤ i → Ev (fun k => spec_Gather.l3 k l L acc (i : Int)) (acc ++ (L.drop i).flatMap (outF l)) := by
    intro L hL d
    induction d with
    | zero =>
      intro i acc hi ha
      rw [List.drop_eq_nil_of_le (by omega)]
      exact ev_some fun k => by simp only [spec_Gather.l3]; rw [if_neg (by omega)]; simp
    | succ d ih =>
      intro i acc hi ha
      have hil : i < L.length := by omega
      rw [dropG 0 hil, List.flatMap_cons]
      obtain ⟨R, r1, r2, r3⟩ := sL10_ev l (L.getD i 0) hl hs hcc
      refine Ev.step (f := fun k => (spec_l10Tx.f k l (L.getD i 0)).bind fun bt722 => if bt722.2.2.2 = true then spec_Gather.l3 k l L (acc ++ [(⟨bt722.1, bt722.2.1, bt722.2.2.1⟩ : S40)]) ((i + 1 : Nat) : Int) else spec_Gather.l3 k l L acc ((i + 1 : Nat) : Int)) (fun k => ?_) (ev_bind r1 ?_)
      · simp only [spec_Gather.l3]
        rw [if_pos (by omega), if_pos (by omega), show rd L (i : Int) = L.getD i 0 from rfl, wsucc (n := L.length) hil (by omega)]
        simp only [if_pos (show acc.length < 3518437208883 by omega)]
      · unfold outF
        by_cases h : (txB l (L.getD i 0)).2.2.2 = true
        · rw [r3 h]
          simp only [if_pos h]
          have := ih (i + 1) (acc ++ [(⟨(txB l (L.getD i 0)).1, (txB l (L.getD i 0)).2.1, (txB l (L.getD i 0)).2.2.1⟩ : S40)]) (by omega) (by simp; omega)
          rw [List.append_assoc] at this
          exact this
        · simp only [r2, if_neg h]
          exact ih (i + 1) acc (by omega) (by omega)
  have ins : ∀ (f : S33) (s : List Int) (i : Nat) (r : List S40), i < l.length → s.length ≤ 1048576 → Ev (fun k => spec_Gather.l0 k l (insB s f.f2) ((i + 1 : Nat) : Int)) r → Ev (fun k => spec_Gather.l1 k l s (i : Int) [] 0 f.f0 f.f1 f.f2 f.f3 f.f4 f.f5) r := by
    intro f s i r hil hsl hr
    have b2 : ∀ (d j : Nat), j + d = s.length → Ev (fun k => spec_Gather.l2 k l s (i : Int) ((s.filter fun y => decide (y < f.f2)) ++ [f.f2] ++ (s.take j).filter fun y => decide (y > f.f2)) (j : Int) f.f0 f.f1 f.f2 f.f3 f.f4 f.f5) r := by
      intro d
      induction d with
      | zero =>
        intro j hj
        rw [List.take_of_length_le (by omega)]
        refine Ev.step (fun k => ?_) hr
        simp only [spec_Gather.l2]
        rw [if_neg (by omega), wsucc (n := l.length) hil (by omega)]; rfl
      | succ d ih =>
        intro j hj
        have hjl : j < s.length := by omega
        have h := ih (j + 1) (by omega)
        have e : rd s (j : Int) = s[j] := by show s.getD j 0 = _; rw [List.getD_eq_getElem?_getD, List.getElem?_eq_getElem hjl]; rfl
        rw [List.take_succ_eq_append_getElem hjl, List.filter_append] at h
        have h1 := List.length_filter_le (fun y => decide (y < f.f2)) s
        have h2 := List.length_filter_le (fun y => decide (y > f.f2)) (s.take j)
        have h3 : (s.take j).length ≤ s.length := by rw [List.length_take]; omega
        by_cases hg : s[j] > f.f2
        · rw [show [s[j]].filter (fun y => decide (y > f.f2)) = [s[j]] by rw [List.filter_cons, if_pos (decide_eq_true hg)]; rfl, ← List.append_assoc] at h
          refine Ev.step (fun k => ?_) h
          simp only [spec_Gather.l2]
          rw [if_pos (by omega), if_pos (by omega), e, if_pos hg, if_pos (by simp only [List.length_append, List.length_singleton]; omega), wsucc (n := s.length) hjl (by omega)]
        · rw [show [s[j]].filter (fun y => decide (y > f.f2)) = [] by rw [List.filter_cons, if_neg (by rw [decide_eq_false hg]; decide)]; rfl, List.append_nil] at h
          refine Ev.step (fun k => ?_) h
          simp only [spec_Gather.l2]
          rw [if_pos (by omega), if_pos (by omega), e, if_neg hg, wsucc (n := s.length) hjl (by omega)]
    have b1 : ∀ (d j : Nat), j + d = s.length → Ev (fun k => spec_Gather.l1 k l s (i : Int) ((s.take j).filter fun y => decide (y < f.f2)) (j : Int) f.f0 f.f1 f.f2 f.f3 f.f4 f.f5) r := by
      intro d
      induction d with
      | zero =>
        intro j hj
        rw [List.take_of_length_le (by omega)]
        have h := b2 s.length 0 (by omega)
        rw [List.take_zero, List.filter_nil, List.append_nil] at h
        have h1 := List.length_filter_le (fun y => decide (y < f.f2)) s
        refine Ev.step (fun k => ?_) h
        simp only [spec_Gather.l1]
        rw [if_neg (by omega), if_pos (by omega)]; rfl
      | succ d ih =>
        intro j hj
        have hjl : j < s.length := by omega
        have h := ih (j + 1) (by omega)
        have e : rd s (j : Int) = s[j] := by show s.getD j 0 = _; rw [List.getD_eq_getElem?_getD, List.getElem?_eq_getElem hjl]; rfl
        rw [List.take_succ_eq_append_getElem hjl, List.filter_append] at h
        have h2 := List.length_filter_le (fun y => decide (y < f.f2)) (s.take j)
        have h3 : (s.take j).length ≤ s.length := by rw [List.length_take]; omega
        by_cases hg : s[j] < f.f2
        · rw [show [s[j]].filter (fun y => decide (y < f.f2)) = [s[j]] by rw [List.filter_cons, if_pos (decide_eq_true hg)]; rfl] at h
          refine Ev.step (fun k => ?_) h
          simp only [spec_Gather.l1]
          rw [if_pos (by omega), if_pos (by omega), e, if_pos hg, if_pos (by omega), wsucc (n := s.length) hjl (by omega)]
        · rw [show [s[j]].filter (fun y => decide (y < f.f2)) = [] by rw [List.filter_cons, if_neg (by rw [decide_eq_false hg]; decide)]; rfl, List.append_nil] at h
          refine Ev.step (fun k => ?_) h
          simp only [spec_Gather.l1]
          rw [if_pos (by omega), if_pos (by omega), e, if_neg hg, wsucc (n := s.length) hjl (by omega)]
    have h := b1 s.length 0 (by omega)
    rw [List.take_zero] at h
    exact h
  have one : ∀ (d i : Nat) (s : List Int), i + d = l.length → Asc s → s.length ≤ i → Ev (fun k => spec_Gather.l0 k l s (i : Int)) (((l.drop i).foldl numG s).flatMap (outF l)) := by
    intro d
    induction d with
    | zero =>
      intro i s hi ha hsl
      rw [List.drop_eq_nil_of_le (by omega), List.foldl_nil]
      have h := three s (by omega) s.length 0 [] (by omega) (by simp)
      rw [List.drop_zero, List.nil_append] at h
      refine Ev.step (fun k => ?_) h
      simp only [spec_Gather.l0]
      rw [if_neg (by omega)]; rfl
    | succ d ih =>
      intro i s hi ha hsl
      have hil : i < l.length := by omega
      rw [dropG z36 hil, List.foldl_cons]
      unfold numG
      by_cases h : (l.getD i z36).f2.f0 = 2
      · rw [if_pos h]
        have hlen : (insB s (l.getD i z36).f2.f2).length ≤ i + 1 := by
          have := asc_len (m := s ++ [(l.getD i z36).f2.f2]) (ins_asc (l.getD i z36).f2.f2 ha) fun y hy => by
            rcases ins_mem.1 hy with hy | rfl
            · exact List.mem_append.2 (.inl hy)
            · exact List.mem_append.2 (.inr (List.mem_singleton.2 rfl))
          rw [List.length_append, List.length_singleton] at this
          omega
        refine Ev.step (fun k => ?_) (ins (l.getD i z36).f2 s i _ hil (by omega) (ih (i + 1) _ (by omega) (ins_asc _ ha) hlen))
        simp only [spec_Gather.l0]
        rw [if_pos (by omega), if_pos (by omega), rdIF_nat, if_pos h]
      · rw [if_neg h]
        refine Ev.step (fun k => ?_) (ih (i + 1) s (by omega) ha (by omega))
        simp only [spec_Gather.l0]
        rw [if_pos (by omega), if_pos (by omega), rdIF_nat, if_neg h, wsucc (n := l.length) hil (by omega)]
  have h := one l.length 0 [] (by omega) List.Pairwise.nil (by simp)
  rw [List.drop_zero] at h
  exact h
end Go.Proofs.Ytodokejcmbjpbaa.Pu

/- Marks: what a row's places are marked with is held there again, and the count goes on alike. -/
namespace Go.Proofs.Ytodokejcmbjpbaa.Pu
open Go.RowKit Go.Proofs.Ytodokejcmbjpbaa.PK Go.Proofs.YtodokejcmbjpbaaW.PrintWords
theorem getD_set_self {α : Type} {xs : List α} {i : Nat} {x z : α} (h : i < xs.length) : (xs.set i x).getD i z = x := by
  rw [List.getD_eq_getElem?_getD, List.getElem?_set_self h]; rfl
theorem getD_set_ne {α : Type} {xs : List α} {i j : Nat} {x z : α} (h : i ≠ j) : (xs.set i x).getD j z = xs.getD j z := by
  rw [List.getD_eq_getElem?_getD, List.getD_eq_getElem?_getD, List.getElem?_set_ne h]
/-- A row that is marked place by place, and held so. -/
theorem ev_mark {α : Type} (z : α) {L : Nat → List α → Int → Int → Option (Int × List α)} {Hd : Nat → List α → Int → Int → Option Int} (E : Nat → α → Int → Option (Int × α)) (G : Nat → α → Int → Option Int) (c : Int) (P : α → Prop)
    (hL : ∀ k (xs : List α) (a : Int) (i : Nat), i < xs.length → 0 ≤ a → a + c ≤ 4611686018427387904 → L (k + 1) xs a (i : Int) = (E k (xs.getD i z) a).bind fun b => L k (xs.set i b.2) b.1 (wrap64 ((i : Int) + 1)))
    (hL0 : ∀ k (xs : List α) (a : Int) (i : Nat), xs.length ≤ i → L (k + 1) xs a (i : Int) = some (a, xs))
    (hH : ∀ k (xs : List α) (a : Int) (i : Nat), i < xs.length → 0 ≤ a → a + c ≤ 4611686018427387904 → Hd (k + 1) xs a (i : Int) = (G k (xs.getD i z) a).bind fun t => if t < 0 then some (-1) else Hd k xs t (wrap64 ((i : Int) + 1)))
    (hH0 : ∀ k (xs : List α) (a : Int) (i : Nat), xs.length ≤ i → Hd (k + 1) xs a (i : Int) = some a)
    (hc : 0 ≤ c)
    (hE : ∀ x a, P x → 0 ≤ a → a + c ≤ 4611686018427387904 → ∃ a' x', Ev (fun k => E k x a) (a', x') ∧ Ev (fun k => G k x' a) a' ∧ a ≤ a' ∧ a' ≤ a + c) :
    ∀ (d i : Nat) (xs : List α) (a : Int), i + d = xs.length → xs.length ≤ 9223372036854775807 → (∀ j, i ≤ j → j < xs.length → P (xs.getD j z)) → 0 ≤ a → a + d * c ≤ 4611686018427387904 →
      ∃ a' xs', xs'.length = xs.length ∧ (∀ j, j < i → xs'.getD j z = xs.getD j z) ∧ Ev (fun k => L k xs a (i : Int)) (a', xs') ∧ Ev (fun k => Hd k xs' a (i : Int)) a' ∧ a ≤ a' ∧ a' ≤ a + d * c := by
  intro d
  induction d with
  | zero =>
    intro i xs a hi hn hP ha hM
    exact ⟨a, xs, rfl, fun _ _ => rfl, ev_some fun k => hL0 k xs a i (by omega), ev_some fun k => hH0 k xs a i (by omega), Int.le_refl _, by simp⟩
  | succ d ih =>
    intro i xs a hi hn hP ha hM
    have hdc : 0 ≤ (d : Int) * c := Int.mul_nonneg (by omega) hc
    have hds : ((d + 1 : Nat) : Int) * c = (d : Int) * c + c := by rw [Int.natCast_add, Int.add_mul]; simp
    rw [hds] at hM
    obtain ⟨a1, x1, hE1, hG1, h1, h2⟩ := hE (xs.getD i z) a (hP i (Nat.le_refl _) (by omega)) ha (by omega)
    have hlen : (xs.set i x1).length = xs.length := List.length_set
    obtain ⟨a', xs', hl', hb', hL', hH', h3, h4⟩ := ih (i + 1) (xs.set i x1) a1 (by rw [hlen]; omega) (by rw [hlen]; exact hn) (fun j hj hj2 => by
      rw [hlen] at hj2
      rw [getD_set_ne (by omega)]
      exact hP j (by omega) hj2) (by omega) (by omega)
    have hxi : xs'.getD i z = x1 := by rw [hb' i (by omega), getD_set_self (by omega)]
    refine ⟨a', xs', by rw [hl', hlen], fun j hj => by rw [hb' j (by omega), getD_set_ne (by omega)], ?_, ?_, by omega, by rw [hds]; omega⟩
    · refine Ev.step (fun k => hL k xs a i (by omega) ha (by omega)) (ev_bind hE1 ?_)
      simp only [wsucc (n := xs.length) (i := i) (by omega) hn]
      exact hL'
    · refine Ev.step (fun k => hH k xs' a i (by rw [hl', hlen]; omega) ha (by omega)) ?_
      rw [hxi]
      refine ev_bind hG1 ?_
      simp only [if_neg (show ¬ a1 < 0 by omega), wsucc (n := xs.length) (i := i) (by omega) hn]
      exact hH'

/-- A row that is marked place by place. -/
theorem ev_mark1 {α : Type} (z : α) {L : Nat → List α → Int → Int → Option (Int × List α)} (E : Nat → α → Int → Option (Int × α)) (c : Int)
    (hL : ∀ k (xs : List α) (a : Int) (i : Nat), i < xs.length → 0 ≤ a → a + c ≤ 4611686018427387904 → L (k + 1) xs a (i : Int) = (E k (xs.getD i z) a).bind fun b => L k (xs.set i b.2) b.1 (wrap64 ((i : Int) + 1)))
    (hL0 : ∀ k (xs : List α) (a : Int) (i : Nat), xs.length ≤ i → L (k + 1) xs a (i : Int) = some (a, xs)) (hc : 0 ≤ c)
    (hE : ∀ x a, 0 ≤ a → a + c ≤ 4611686018427387904 → ∃ a' x', Ev (fun k => E k x a) (a', x') ∧ a ≤ a' ∧ a' ≤ a + c) :
    ∀ (d i : Nat) (xs : List α) (a : Int), i + d = xs.length → xs.length ≤ 9223372036854775807 → 0 ≤ a → a + d * c ≤ 4611686018427387904 →
      ∃ a' xs', Ev (fun k => L k xs a (i : Int)) (a', xs') ∧ a ≤ a' ∧ a' ≤ a + d * c := by
  intro d
  induction d with
  | zero =>
    intro i xs a hi hn ha hM
    exact ⟨a, xs, ev_some fun k => hL0 k xs a i (by omega), Int.le_refl _, by simp⟩
  | succ d ih =>
    intro i xs a hi hn ha hM
    have hdc : 0 ≤ (d : Int) * c := Int.mul_nonneg (by omega) hc
    have hds : ((d + 1 : Nat) : Int) * c = (d : Int) * c + c := by rw [Int.natCast_add, Int.add_mul]; simp
    rw [hds] at hM
    obtain ⟨a1, x1, hE1, h1, h2⟩ := hE (xs.getD i z) a ha (by omega)
    have hlen : (xs.set i x1).length = xs.length := List.length_set
    obtain ⟨a', xs', hL', h3, h4⟩ := ih (i + 1) (xs.set i x1) a1 (by rw [hlen]; omega) (by rw [hlen]; exact hn) (by omega) (by omega)
    refine ⟨a', xs', ?_, by omega, by rw [hds]; omega⟩
    refine Ev.step (fun k => hL k xs a i (by omega) ha (by omega)) (ev_bind hE1 ?_)
    simp only [wsucc (n := xs.length) (i := i) (by omega) hn]
    exact hL'

end Go.Proofs.Ytodokejcmbjpbaa.Pu

/- A mark's text. -/
namespace Go.Proofs.Ytodokejcmbjpbaa.Pu
open Go.RowKit Go.Proofs.Ytodokejcmbjpbaa.PK Go.Proofs.YtodokejcmbjpbaaW.PrintWords
theorem strOne (n : Int) : (strOfNums [n]).size = 1 := by simp [strOfNums, ByteArray.size]
/-- A mark's text is there. -/
theorem markText_ev (n : Int) (h1 : n ≤ 4611686018427387904) : ∃ t, Ev (fun k => laws_markText.f k n) t := by
  by_cases h : n ≤ 0
  · exact ⟨⟨#[109, 48]⟩, by unfold laws_markText.f; simp only [if_pos h]; exact Ev.now _⟩
  · have main : ∀ (d : Nat) (x : Int) (s : ByteArray), 0 ≤ x → x ≤ d → x ≤ 4611686018427387904 → s.size + d ≤ 4611686018427387905 → ∃ t, Ev (fun k => laws_markText.l0 k x s) t := by
      intro d
      induction d using Nat.strongRecOn with
      | _ d ih =>
        intro x s hx hd hx2 hs
        by_cases hz : x > 0
        · have hq : Int.tdiv x 10 = x / 10 := Int.tdiv_eq_ediv_of_nonneg hx
          obtain ⟨t, ht⟩ := ih (d - 1) (by omega) (x / 10) ((strOfNums [(wrap64 (48 + (Int.tmod x 10))) % 256]) ++ s) (by omega) (by omega) (by omega) (by rw [ByteArray.size_append, strOne]; omega)
          refine ⟨t, Ev.step (fun k => ?_) ht⟩
          simp only [laws_markText.l0]
          rw [if_pos hz]
          simp only [Option.bind_some]
          rw [if_pos (by rw [strOne]; omega), hq, w64 (by omega) (by omega)]
        · exact ⟨_, ev_some fun k => by
            simp only [laws_markText.l0]
            rw [if_neg hz, if_pos (by omega)]⟩
    obtain ⟨t, ht⟩ := main n.toNat n ⟨#[]⟩ (by omega) (by omega) h1 (by show 0 + _ ≤ _; omega)
    exact ⟨t, by unfold laws_markText.f; simp only [if_neg h]; exact ht⟩
end Go.Proofs.Ytodokejcmbjpbaa.Pu

/- Rows of pages found: sizes, copies, comparison, marks; and what bounds what is gathered of them. -/
namespace Go.Proofs.Ytodokejcmbjpbaa.Pu
open Go.RowKit Go.Proofs.Ytodokejcmbjpbaa.PK Go.Proofs.YtodokejcmbjpbaaW.PrintWords
theorem rdLF_nat (l : List S73) (i : Nat) : rd_T73 l (i : Int) = l.getD i z73 := rfl
def toFd (x : S73) : S36 := ⟨x.f0, x.f1, ⟨x.f2.f0, x.f2.f1, x.f2.f2, x.f2.f3, x.f2.f4, x.f2.f5⟩⟩
theorem toFoundS_ev (l : List S73) (h : l.length ≤ 1048576) : Ev (fun k => laws_toFoundS.f k l) (l.map toFd) := by
  have h1 := ev_fill_all (E := fun _ i => (laws_toFound.f (rd_T73 l i).f0 (rd_T73 l i).f1 (rd_T73 l i).f2.f0 (rd_T73 l i).f2.f1 (rd_T73 l i).f2.f2 (rd_T73 l i).f2.f3 (rd_T73 l i).f2.f4 (rd_T73 l i).f2.f5).bind fun bt => some (⟨bt.1, bt.2.1, ⟨bt.2.2.1, bt.2.2.2.1, bt.2.2.2.2.1, bt.2.2.2.2.2.1, bt.2.2.2.2.2.2.1, bt.2.2.2.2.2.2.2⟩⟩ : S36)) (l := l) (z := z73) (g := toFd) (xs := List.replicate l.length z36) (L := fun k xs i => laws_toFoundS.l0 k l xs i) (by omega) (fun k xs i => by
    simp only [laws_toFoundS.l0, Option.bind_assoc, Option.bind_some]) (fun i hi => by rw [rdLF_nat]; exact Ev.now _) (by simp)
  refine ev_ext (fun k => ?_) h1
  unfold laws_toFoundS.f
  rw [if_pos (by omega), if_pos (by simp; omega)]
  simp
theorem eqFoundS_ev (l : List S36) (hn : l.length ≤ 1048576) : Ev (fun k => laws_eqFoundS.f k l l) true := by
  have h1 := ev_all (n := l.length) (m := l.length) (L := fun k i => laws_eqFoundS.l0 k l l i) (E := fun k i => laws_eqFound.f (rd_T36 l i).f0 (rd_T36 l i).f1 (rd_T36 l i).f2.f0 (rd_T36 l i).f2.f1 (rd_T36 l i).f2.f2 (rd_T36 l i).f2.f3 (rd_T36 l i).f2.f4 (rd_T36 l i).f2.f5 (rd_T36 l i).f0 (rd_T36 l i).f1 (rd_T36 l i).f2.f0 (rd_T36 l i).f2.f1 (rd_T36 l i).f2.f2 (rd_T36 l i).f2.f3 (rd_T36 l i).f2.f4 (rd_T36 l i).f2.f5) (by omega) (Nat.le_refl _) (fun k i => by simp only [laws_eqFoundS.l0])
    (fun i hi => ev_const (by unfold laws_eqFound.f laws_eqPage.f; simp)) l.length 0 (by omega)
  unfold laws_eqFoundS.f
  simp only [if_true]
  exact h1
def sizesL (l : List S73) : Nat := (l.map fun f => f.f2.f5.size).sum
theorem szFoundS_ev (l : List S73) (hn : l.length ≤ 9223372036854775807) (hk : ∀ x ∈ l, x.f2.f5.size ≤ 9223372036854775807) : ∃ r, Ev (fun k => laws_szFoundS.f k l 1048576) r ∧ (0 ≤ r → l.length + sizesL l ≤ 1048576) := by
  unfold laws_szFoundS.f
  rw [w64 (x := 1048576 - (l.length : Int)) (by omega) (by omega)]
  by_cases h0 : 1048576 - (l.length : Int) < 0
  · exact ⟨-1, by simp only [if_pos h0]; exact Ev.now _, fun h => by omega⟩
  · simp only [if_neg h0]
    have main : ∀ (d i : Nat) (a : Int), i + d = l.length → 0 ≤ a → a ≤ 1048576 → ∃ r, Ev (fun k => laws_szFoundS.l0 k l a (i : Int)) r ∧ (0 ≤ r → (sizesL (l.drop i) : Int) ≤ a) := by
      intro d
      induction d with
      | zero =>
        intro i a hi ha0 ha1
        rw [List.drop_eq_nil_of_le (by omega)]
        exact ⟨a, ev_some fun k => by simp only [laws_szFoundS.l0]; rw [if_neg (by omega)], fun h => ha0⟩
      | succ d ih =>
        intro i a hi ha0 ha1
        have hil : i < l.length := by omega
        have hx := hk _ (getD_mem' (z := z73) hil)
        rw [dropG z73 hil]
        have es : sizesL (l.getD i z73 :: l.drop (i + 1)) = (l.getD i z73).f2.f5.size + sizesL (l.drop (i + 1)) := rfl
        rw [es]
        have st : ∀ k, laws_szFoundS.l0 (k + 1) l a (i : Int) = if a - ((l.getD i z73).f2.f5.size : Int) < 0 then some (-1) else laws_szFoundS.l0 k l (a - ((l.getD i z73).f2.f5.size : Int)) ((i + 1 : Nat) : Int) := fun k => by
          simp only [laws_szFoundS.l0]
          rw [if_pos (by omega), if_pos (by omega), rdLF_nat, wsucc (n := l.length) hil (by omega)]
          unfold laws_szFound.f laws_szPage.f
          rw [w64 (by omega) (by omega)]
          by_cases h : a - ((l.getD i z73).f2.f5.size : Int) < 0
          · simp only [if_pos h, Option.bind_some, if_pos (show (-1 : Int) < 0 by omega)]
          · simp only [if_neg h, Option.bind_some]
        by_cases h : a - ((l.getD i z73).f2.f5.size : Int) < 0
        · exact ⟨-1, ev_some fun k => by rw [st k, if_pos h], fun h => by omega⟩
        · obtain ⟨r, r1, r2⟩ := ih (i + 1) (a - ((l.getD i z73).f2.f5.size : Int)) (by omega) (by omega) (by omega)
          exact ⟨r, Ev.step (fun k => by rw [st k, if_neg h]) r1, fun h => by have := r2 h; omega⟩
    obtain ⟨r, r1, r2⟩ := main l.length 0 (1048576 - (l.length : Int)) (by omega) (by omega) (by omega)
    rw [List.drop_zero] at r2
    exact ⟨r, r1, fun h => by have := r2 h; omega⟩
theorem sizes_to (l : List S73) : sizesN (l.map toFd) = sizesL l := by
  unfold sizesN sizesL
  rw [List.map_map]; rfl
theorem mark_found (l : List S36) (hn : l.length ≤ 1048576) : ∃ a' l', Ev (fun k => laws_markFoundS.f k l 1) (a', l') ∧ 1 ≤ a' := by
  obtain ⟨a', l', h1, h2, _⟩ := ev_mark1 z36 (L := fun k xs a i => laws_markFoundS.l0 k xs a i)
    (fun k x a => (laws_markText.f k (a + 7)).bind fun t => some (a + 8, (⟨a, a + 1, ⟨a + 2, a + 3, a + 4, a + 5, a + 6, t⟩⟩ : S36))) 8
    (fun k xs a i hi h0 h1 => by
      have e1 : ∀ v, rd_T36 (xs.set i v) (i : Int) = v := fun v => getD_set_self hi
      simp only [laws_markFoundS.l0]
      rw [if_pos (by omega), if_pos (by omega)]
      simp only [Option.bind_some, Int.toNat_natCast, e1, List.set_set, Option.bind_assoc]
      rw [w64 (x := a + 1) (by omega) (by omega), w64 (x := a + 1 + 1) (by omega) (by omega), w64 (x := a + 1 + 1 + 1) (by omega) (by omega), w64 (x := a + 1 + 1 + 1 + 1) (by omega) (by omega), w64 (x := a + 1 + 1 + 1 + 1 + 1) (by omega) (by omega), w64 (x := a + 1 + 1 + 1 + 1 + 1 + 1) (by omega) (by omega), w64 (x := a + 1 + 1 + 1 + 1 + 1 + 1 + 1) (by omega) (by omega), w64 (x := a + 1 + 1 + 1 + 1 + 1 + 1 + 1 + 1) (by omega) (by omega)]
      rw [show a + 1 + 1 = a + 2 by omega, show a + 2 + 1 = a + 3 by omega, show a + 3 + 1 = a + 4 by omega, show a + 4 + 1 = a + 5 by omega, show a + 5 + 1 = a + 6 by omega, show a + 6 + 1 = a + 7 by omega, show a + 7 + 1 = a + 8 by omega])
    (fun k xs a i hi => by
      simp only [laws_markFoundS.l0]
      rw [if_neg (by omega)])
    (by omega)
    (fun x a h0 h1 => by
      obtain ⟨t, ht⟩ := markText_ev (a + 7) (by omega)
      exact ⟨a + 8, ⟨a, a + 1, ⟨a + 2, a + 3, a + 4, a + 5, a + 6, t⟩⟩, ev_bind ht (Ev.now _), by omega, by omega⟩)
    l.length 0 l 1 (by omega) (by omega) (by omega) (by omega)
  exact ⟨a', l', h1, h2⟩
/-- Bounds of what is gathered. -/
theorem rr_len2 (t : ByteArray) : ∀ (d i : Nat) (acc : List S45), i ≤ t.size → (rrB t d i acc).1.length ≤ acc.length + (t.size - i)
  | 0, i, acc, _ => by show acc.length ≤ _; omega
  | d + 1, i, acc, hi => by
    unfold rrB
    by_cases h : i < t.size
    · rw [if_pos h]
      by_cases h2 : (recMay t i && recOk (recAt t i).f0 (recAt t i).f1 (recAt t i).f2 (recAt t i).f3) = true
      · rw [if_pos h2]
        rw [Bool.and_eq_true] at h2
        have hm := h2.1
        unfold recMay at hm
        rw [Bool.and_eq_true] at hm
        have A := rvB_range t ((i + 1 : Nat) : Int)
        have C := rvB_range t (rvB t ((i + 1 : Nat) : Int)).2.1
        rcases A with ⟨a1, _⟩ | ⟨a1, a2, a3, a4, a5, a6⟩
        · rw [a1] at hm; exact absurd hm.1 (by decide)
        rcases C with ⟨c1, _⟩ | ⟨c1, c2, c3, c4, c5, c6⟩
        · rw [c1] at hm; exact absurd hm.2 (by decide)
        have := rr_len2 t d (recEnd t i).toNat (acc ++ [recAt t i]) (by unfold recEnd; omega)
        have e : i < (recEnd t i).toNat ∧ (recEnd t i).toNat ≤ t.size := by unfold recEnd; omega
        simp only [List.length_append, List.length_cons, List.length_nil] at this
        omega
      · rw [if_neg h2]; exact Nat.zero_le _
    · rw [if_neg h]; show acc.length ≤ _; omega
theorem go_size {l : List S36} {x c : Int} : ∀ (d : Nat) (p : Int) (t : ByteArray) (s : Int) {t' : ByteArray} {s' : Int}, goB l x c d p t s = some (t', s') → t.size ≤ belowN l p → t'.size ≤ sizesN l
  | 0, p, t, s, t', s', h, ht => by
    unfold goB at h
    injection h with h
    injection h with h1 h2
    have := below_le l p
    rw [← h1]; omega
  | d + 1, p, t, s, t', s', h, ht => by
    unfold goB at h
    cases e : metaB l x p c with
    | none => rw [e] at h; cases h
    | some q =>
      rw [e] at h
      obtain ⟨f, hf, rfl, hT⟩ := meta_mem e
      unfold metaT at hT
      simp only [Bool.and_eq_true, decide_eq_true_eq] at hT
      have hb := below_step hf hT.2.2.1
      exact go_size d (p + 1) (t ++ f.f2.f5) (mn s f.f2.f1) h (by rw [ByteArray.size_append]; omega)
theorem tx_recs (l : List S36) (x : Int) : (txB l x).2.2.1.length ≤ sizesN l := by
  unfold txB
  cases e : metaB l x 0 0 with
  | none => exact Nat.zero_le _
  | some q =>
    obtain ⟨f, hf, rfl, hT⟩ := meta_mem e
    unfold metaT at hT
    simp only [Bool.and_eq_true, decide_eq_true_eq] at hT
    have hb : belowN l 0 + f.f2.f5.size ≤ belowN l 1 := below_step hf hT.2.2.1
    show (match goB l x f.f2.f4 (f.f2.f4 - 1).toNat 1 f.f2.f5 f.f2.f1 with | none => (0, 0, [], false) | some (t, s) => (x, s, (rrT t).1, (rrT t).2) : Int × Int × List S45 × Bool).2.2.1.length ≤ _
    cases e2 : goB l x f.f2.f4 (f.f2.f4 - 1).toNat 1 f.f2.f5 f.f2.f1 with
    | none => exact Nat.zero_le _
    | some z =>
      obtain ⟨t', s'⟩ := z
      have h1 := go_size _ _ _ _ e2 (by omega)
      have h2 := rr_len2 t' (t'.size + 1) 0 [] (Nat.zero_le _)
      show (rrT t').1.length ≤ _
      unfold rrT
      simp only [List.length_nil] at h2
      omega
theorem out_mem {l : List S36} {n : Int} {y : S40} (h : y ∈ outF l n) : y = ⟨(txB l n).1, (txB l n).2.1, (txB l n).2.2.1⟩ := by
  unfold outF at h
  split at h
  · exact List.mem_singleton.1 h
  · cases h
theorem flat_len (l : List S36) : ∀ s : List Int, (s.flatMap (outF l)).length ≤ s.length
  | [] => Nat.le_refl _
  | n :: s => by
    rw [List.flatMap_cons, List.length_append]
    have := flat_len l s
    have h : (outF l n).length ≤ 1 := by unfold outF; split <;> simp
    simp only [List.length_cons]
    omega
theorem gather_le (l : List S36) : (gatherB l).length ≤ l.length ∧ ∀ y ∈ gatherB l, y.f2.length ≤ sizesN l := by
  constructor
  · unfold gatherB
    have h1 := flat_len l (sortB (numsB l))
    rw [nums_eq] at h1 ⊢
    have h2 := nums_le l [] List.Pairwise.nil
    simp only [List.length_nil] at h2
    omega
  · intro y hy
    unfold gatherB at hy
    obtain ⟨n, _, hn⟩ := List.mem_flatMap.1 hy
    rw [out_mem hn]
    exact tx_recs l n
end Go.Proofs.Ytodokejcmbjpbaa.Pu

/- A row of records as data. -/
namespace Go.Proofs.Ytodokejcmbjpbaa.Pu
open Go.RowKit Go.Proofs.Ytodokejcmbjpbaa.PK Go.Proofs.YtodokejcmbjpbaaW.PrintWords
theorem rdIR_nat (l : List S45) (i : Nat) : rd_T45 l (i : Int) = l.getD i z45 := rfl
theorem eqRecS_ev (l : List S45) (hn : l.length ≤ 9223372036854775807) : Ev (fun k => laws_eqRecS.f k l l) true := by
  have h1 := ev_all (n := l.length) (m := l.length) (L := fun k i => laws_eqRecS.l0 k l l i) (E := fun _ i => laws_eqRec.f (rd_T45 l i).f0 (rd_T45 l i).f1 (rd_T45 l i).f2 (rd_T45 l i).f3 (rd_T45 l i).f0 (rd_T45 l i).f1 (rd_T45 l i).f2 (rd_T45 l i).f3) hn (Nat.le_refl _) (fun k i => by simp only [laws_eqRecS.l0]) (fun i _ => ev_const (by unfold laws_eqRec.f; simp only [if_true])) l.length 0 (by omega)
  unfold laws_eqRecS.f
  simp only [if_true]
  exact h1
end Go.Proofs.Ytodokejcmbjpbaa.Pu

/- Marks of a row of records, and a row of records held against itself. -/
namespace Go.Proofs.Ytodokejcmbjpbaa.Pu
open Go.RowKit Go.Proofs.Ytodokejcmbjpbaa.PK Go.Proofs.YtodokejcmbjpbaaW.PrintWords
theorem mark_recs (l : List S45) (a : Int) (hn : (l.length : Int) ≤ 1099511627776) (ha : 0 ≤ a) (hM : a + l.length * 4 ≤ 4611686018427387904) :
    ∃ a' l', l'.length = l.length ∧ Ev (fun k => laws_markRecS.f k l a) (a', l') ∧ Ev (fun k => laws_heldRecS.f k l' a) a' ∧ a ≤ a' ∧ a' ≤ a + l.length * 4 := by
  obtain ⟨a', l', h1, _, h2, h3, h4, h5⟩ := ev_mark z45 (L := fun k xs a i => laws_markRecS.l0 k xs a i) (Hd := fun k xs a i => laws_heldRecS.l0 k xs a i)
    (fun _ x a => some (wrap64 ((wrap64 ((wrap64 ((wrap64 (a + 1)) + 1)) + 1)) + 1), (⟨a, wrap64 (a + 1), wrap64 ((wrap64 (a + 1)) + 1), wrap64 ((wrap64 ((wrap64 (a + 1)) + 1)) + 1)⟩ : S45))) (fun _ x a => (if x.f0 = a then (if x.f1 = (wrap64 (a + 1)) then (if x.f2 = (wrap64 ((wrap64 (a + 1)) + 1)) then (if x.f3 = (wrap64 ((wrap64 ((wrap64 (a + 1)) + 1)) + 1)) then some (wrap64 ((wrap64 ((wrap64 ((wrap64 (a + 1)) + 1)) + 1)) + 1)) else some (-1)) else some (-1)) else some (-1)) else some (-1))) 4 (fun _ => True)
    (fun k xs a i hi _ _ => by
      have e1 : ∀ v, rd_T45 (xs.set i v) (i : Int) = v := fun v => getD_set_self hi
      simp only [laws_markRecS.l0]
      rw [if_pos (by omega), if_pos (by omega)]
      simp only [Option.bind_some, Int.toNat_natCast, e1, List.set_set])
    (fun k xs a i hi => by
      simp only [laws_markRecS.l0]
      rw [if_neg (by omega)])
    (fun k xs a i hi h0 h1 => by
      have er : rd_T45 xs (i : Int) = xs.getD i z45 := rfl
      have ew : wrap64 ((wrap64 ((wrap64 ((wrap64 (a + 1)) + 1)) + 1)) + 1) = a + 4 := by rw [w64 (x := a + 1) (by omega) (by omega)]; rw [w64 (x := a + 1 + 1) (by omega) (by omega)]; rw [w64 (x := a + 1 + 1 + 1) (by omega) (by omega)]; rw [w64 (x := a + 1 + 1 + 1 + 1) (by omega) (by omega)]; omega
      simp only [laws_heldRecS.l0]
      rw [if_pos (by omega), if_pos (by omega), er]
      generalize xs.getD i z45 = y
      by_cases q0 : y.f0 = a
      rotate_left
      · simp only [if_neg q0, Option.bind_some]
        rw [if_pos (by omega)]
      by_cases q1 : y.f1 = wrap64 (a + 1)
      rotate_left
      · simp only [if_pos q0, if_neg q1, Option.bind_some]
        rw [if_pos (by omega)]
      by_cases q2 : y.f2 = wrap64 ((wrap64 (a + 1)) + 1)
      rotate_left
      · simp only [if_pos q0, if_pos q1, if_neg q2, Option.bind_some]
        rw [if_pos (by omega)]
      by_cases q3 : y.f3 = wrap64 ((wrap64 ((wrap64 (a + 1)) + 1)) + 1)
      rotate_left
      · simp only [if_pos q0, if_pos q1, if_pos q2, if_neg q3, Option.bind_some]
        rw [if_pos (by omega)]
      simp only [if_pos q0, if_pos q1, if_pos q2, if_pos q3, Option.bind_some]
      rw [if_neg (by omega)])
    (fun k xs a i hi => by
      simp only [laws_heldRecS.l0]
      rw [if_neg (by omega)])
    (by omega)
    (fun x a _ h0 h1 => by
      have ew : wrap64 ((wrap64 ((wrap64 ((wrap64 (a + 1)) + 1)) + 1)) + 1) = a + 4 := by rw [w64 (x := a + 1) (by omega) (by omega)]; rw [w64 (x := a + 1 + 1) (by omega) (by omega)]; rw [w64 (x := a + 1 + 1 + 1) (by omega) (by omega)]; rw [w64 (x := a + 1 + 1 + 1 + 1) (by omega) (by omega)]; omega
      exact ⟨a + 4, ⟨a, wrap64 (a + 1), wrap64 ((wrap64 (a + 1)) + 1), wrap64 ((wrap64 ((wrap64 (a + 1)) + 1)) + 1)⟩, by simp only [ew]; exact Ev.now _, by simp only [if_true, ew]; exact Ev.now _, by omega, by omega⟩)
    l.length 0 l a (by omega) (by omega) (fun _ _ _ => trivial) ha (by omega)
  exact ⟨a', l', h1, h2, h3, h4, h5⟩
end Go.Proofs.Ytodokejcmbjpbaa.Pu

/- Transactions as data: what a law on a row of them begins with. -/
namespace Go.Proofs.Ytodokejcmbjpbaa.Pu
open Go.RowKit Go.Proofs.Ytodokejcmbjpbaa.PK Go.Proofs.YtodokejcmbjpbaaW.PrintWords
theorem rdIT_nat (l : List S40) (i : Nat) : rd_T40 l (i : Int) = l.getD i z40 := rfl
theorem eqTxS_ev (l : List S40) (hn : l.length ≤ 1048576) (hk : ∀ x ∈ l, x.f2.length ≤ 1048576) : Ev (fun k => laws_eqTxS.f k l l) true := by
  have h1 := ev_all (n := l.length) (m := l.length) (L := fun k i => laws_eqTxS.l0 k l l i) (E := fun k i => laws_eqTx.f k (rd_T40 l i).f0 (rd_T40 l i).f1 (rd_T40 l i).f2 (rd_T40 l i).f0 (rd_T40 l i).f1 (rd_T40 l i).f2) (by omega) (Nat.le_refl _) (fun k i => by simp only [laws_eqTxS.l0])
    (fun i hi => by
      rw [rdIT_nat]
      unfold laws_eqTx.f
      simp only [if_true]
      exact ev_bind (eqRecS_ev _ (by have := hk _ (getD_mem' (z := z40) hi); omega)) (by simp only [if_true]; exact Ev.now _)) l.length 0 (by omega)
  refine ev_ext (fun k => ?_) h1
  unfold laws_eqTxS.f
  rw [if_pos rfl]; rfl
theorem mark_txs (l : List S40) (a : Int) (hn : l.length ≤ 1048576) (hk : ∀ x ∈ l, x.f2.length ≤ 1048576) (ha : 0 ≤ a) (hM : a ≤ 1099511627776) :
    ∃ a' l', l'.length = l.length ∧ Ev (fun k => laws_markTxS.f k l a) (a', l') ∧ Ev (fun k => laws_heldTxS.f k l' a) a' ∧ a ≤ a' ∧ a' ≤ a + l.length * 4194306 := by
  obtain ⟨a', l', h1, _, h2, h3, h4, h5⟩ := ev_mark z40 (L := fun k xs a i => laws_markTxS.l0 k xs a i) (Hd := fun k xs a i => laws_heldTxS.l0 k xs a i)
    (fun k x a => (laws_markRecS.f k x.f2 (wrap64 (wrap64 (a + 1) + 1))).bind fun b => some (b.1, (⟨a, wrap64 (a + 1), b.2⟩ : S40))) (fun k x a => if x.f0 = a then (if x.f1 = wrap64 (a + 1) then laws_heldRecS.f k x.f2 (wrap64 (wrap64 (a + 1) + 1)) else some (-1)) else some (-1)) 4194306 (fun x => x.f2.length ≤ 1048576)
    (fun k xs a i hi _ _ => by
      have e1 : ∀ v, rd_T40 (xs.set i v) (i : Int) = v := fun v => getD_set_self hi
      simp only [laws_markTxS.l0]
      rw [if_pos (by omega), if_pos (by omega)]
      simp only [Option.bind_some, Int.toNat_natCast, e1, List.set_set, Option.bind_assoc]
      rfl)
    (fun k xs a i hi => by
      simp only [laws_markTxS.l0]
      rw [if_neg (by omega)])
    (fun k xs a i hi h0 h1 => by
      have er : rd_T40 xs (i : Int) = xs.getD i z40 := rfl
      simp only [laws_heldTxS.l0]
      rw [if_pos (by omega), if_pos (by omega), er]
      generalize xs.getD i z40 = y
      by_cases q0 : y.f0 = a
      rotate_left
      · simp only [if_neg q0, Option.bind_some]
        rw [if_pos (by omega)]
      by_cases q1 : y.f1 = wrap64 (a + 1)
      rotate_left
      · simp only [if_pos q0, if_neg q1, Option.bind_some]
        rw [if_pos (by omega)]
      simp only [if_pos q0, if_pos q1])
    (fun k xs a i hi => by
      simp only [laws_heldTxS.l0]
      rw [if_neg (by omega)])
    (by omega)
    (fun x a hx h0 h1 => by
      obtain ⟨a1, l1, g1, g2, g3, g4, g5⟩ := mark_recs x.f2 (a + 2) (by omega) (by omega) (by omega)
      have e1 : wrap64 (a + 1) = a + 1 := w64 (by omega) (by omega)
      have e2 : wrap64 (a + 1 + 1) = a + 2 := by rw [w64 (by omega) (by omega)]; omega
      refine ⟨a1, ⟨a, a + 1, l1⟩, ?_, ?_, by omega, by omega⟩
      · simp only [e1, e2]
        exact ev_bind g2 (Ev.now _)
      · simp only [e1, e2, if_true]
        exact g3)
    l.length 0 l a (by omega) (by omega) (fun j _ hj => hk _ (getD_mem' hj)) ha (by omega)
  exact ⟨a', l', h1, h2, h3, h4, h5⟩
end Go.Proofs.Ytodokejcmbjpbaa.Pu

/- FnExactGather: what the program and the reference gather of pages is one, and the program's is its own. -/
namespace Go.Proofs.Ytodokejcmbjpbaa.Pure
open Go.RowKit Go.Proofs.Ytodokejcmbjpbaa.PK Go.Proofs.YtodokejcmbjpbaaW.PrintWords Go.Proofs.Ytodokejcmbjpbaa.Pu
theorem FnExactGather : ∀ (l0 : List S73), (l0.length ≤ maxLen ∧ ∀ x_l0 ∈ l0, ((Lit.int .i64 x_l0.f0).wf = true ∧ (Lit.int .i64 x_l0.f1).wf = true ∧ ((Lit.int .i64 x_l0.f2.f0).wf = true ∧ (Lit.int .i64 x_l0.f2.f1).wf = true ∧ (Lit.int .i64 x_l0.f2.f2).wf = true ∧ (Lit.int .i64 x_l0.f2.f3).wf = true ∧ (Lit.int .i64 x_l0.f2.f4).wf = true ∧ x_l0.f2.f5.size ≤ maxLen))) → ∃ k, laws_FnExactGather.f k l0 = some true := by
  intro l ⟨hl, hx⟩
  refine Ev.rounds (g := fun k => laws_FnExactGather.f k l) ?_
  unfold maxLen at hl
  obtain ⟨r, hr, hq⟩ := szFoundS_ev l (by omega) (fun x h => by have := (hx x h).2.2.2.2.2.2.2; unfold maxLen at this; omega)
  unfold laws_FnExactGather.f
  refine ev_bind hr ?_
  by_cases h : r < 0
  · simp only [if_pos h]; exact Ev.now _
  · simp only [if_neg h]
    have hb := hq (by omega)
    have hn : (l.map toFd).length ≤ 1048576 := by rw [List.length_map]; omega
    have hz : sizesN (l.map toFd) ≤ 1048576 := by rw [sizes_to]; omega
    have hc : ∀ f ∈ l.map toFd, f.f2.f4 ≤ 9223372036854775807 := fun f hf => by
      obtain ⟨y, hy, rfl⟩ := List.mem_map.1 hf
      exact (wf_i64 (hx y hy).2.2.2.2.2.2.1).2
    have hto := toFoundS_ev l (by omega)
    have heq := eqFoundS_ev (l.map toFd) hn
    have hs := sGather_ev (l.map toFd) hn hz hc
    have hi := iGather_ev (l.map toFd) hn hz hc
    obtain ⟨g1, g2⟩ := gather_le (l.map toFd)
    have hm2 : ∀ x ∈ gatherB (l.map toFd), x.f2.length ≤ 1048576 := fun x h => by have := g2 x h; omega
    have eqi := eqTxS_ev (gatherB (l.map toFd)) (by omega) hm2
    obtain ⟨ka, l', hmk, hk0⟩ := mark_found (l.map toFd) hn
    obtain ⟨m, g', _, hm1, hmh, hm0, _⟩ := mark_txs (gatherB (l.map toFd)) 1 (by omega) hm2 (by omega) (by omega)
    refine ev_bind hto (ev_bind hs (ev_bind hto (ev_bind hi (ev_bind eqi ?_))))
    simp only [if_true]
    refine ev_bind hto (ev_bind heq ?_)
    simp only [if_true]
    refine ev_bind hmk (ev_bind eqi ?_)
    simp only [if_true, if_neg (show ¬ ka < 0 by omega)]
    refine ev_bind hm1 (ev_bind hmh ?_)
    simp only [if_true, if_neg (show ¬ m < 0 by omega)]
    refine ev_bind hto (ev_bind hi (ev_bind eqi ?_))
    simp only [if_true]
    refine ev_bind hmh ?_
    simp only [if_true, if_neg (show ¬ m < 0 by omega)]
    exact Ev.now _
end Go.Proofs.Ytodokejcmbjpbaa.Pure

/- FnExactGather: whatever the input, the law returns true, and its arguments read as they did. The row, out of the law's own walk and the pure statement. -/
namespace Go.Proofs.Ytodokejcmbjpbaa.fnExactGather
open Go.ChangeShapes Go.WideShapes Go.ChangeAt Go.RowKit Go.Proofs.Ytodokejcmbjpbaa.Open Go.Proofs.YtodokejcmbjpbaaW.PrintWords Go.Proofs.Ytodokejcmbjpbaa.PK
open Go.ChangeMaps (open_string shut_string)
theorem own : ownKnob Try.prog.godebug = none := by kernel_rfl
theorem laidOut : laidOutB Try.prog = true := by kernel_rfl
set_option maxRecDepth 100000 in
theorem o71 : Opn Try.prog 71 k71 (fun x => ((Lit.int .i64 x.f0).wf = true ∧ (Lit.int .i64 x.f1).wf = true ∧ (Lit.int .i64 x.f2).wf = true ∧ (Lit.int .i64 x.f3).wf = true ∧ (Lit.int .i64 x.f4).wf = true ∧ x.f5.size ≤ maxLen)) := opn_struct (d := (Kd.pair (Kd.int .i64) (Kd.pair (Kd.int .i64) (Kd.pair (Kd.int .i64) (Kd.pair (Kd.int .i64) (Kd.pair (Kd.int .i64) Kd.string)))))) (wf := fun (y : Int × Int × Int × Int × Int × ByteArray) => ((Lit.int .i64 y.1).wf = true ∧ ((Lit.int .i64 y.2.1).wf = true ∧ ((Lit.int .i64 y.2.2.1).wf = true ∧ ((Lit.int .i64 y.2.2.2.1).wf = true ∧ ((Lit.int .i64 y.2.2.2.2.1).wf = true ∧ y.2.2.2.2.2.size ≤ maxLen)))))) (fun x : S71 => (x.f0, x.f1, x.f2, x.f3, x.f4, x.f5)) (fun y => (⟨y.1, y.2.1, y.2.2.1, y.2.2.2.1, y.2.2.2.2.1, y.2.2.2.2.2⟩ : S71)) (fun _ => rfl) Try.underlying71 (by kernel_rfl) (opnF_cons rfl (by kernel_rfl) (opn_int Try.underlying3) (opnF_cons rfl (by kernel_rfl) (opn_int Try.underlying3) (opnF_cons rfl (by kernel_rfl) (opn_int Try.underlying3) (opnF_cons rfl (by kernel_rfl) (opn_int Try.underlying3) (opnF_cons rfl (by kernel_rfl) (opn_int Try.underlying3) (opnF_one rfl (by kernel_rfl) (opn_string Try.underlying9)))))))
set_option maxRecDepth 100000 in
theorem o73 : Opn Try.prog 73 k73 (fun x => ((Lit.int .i64 x.f0).wf = true ∧ (Lit.int .i64 x.f1).wf = true ∧ ((Lit.int .i64 x.f2.f0).wf = true ∧ (Lit.int .i64 x.f2.f1).wf = true ∧ (Lit.int .i64 x.f2.f2).wf = true ∧ (Lit.int .i64 x.f2.f3).wf = true ∧ (Lit.int .i64 x.f2.f4).wf = true ∧ x.f2.f5.size ≤ maxLen))) := opn_struct (d := (Kd.pair (Kd.int .i64) (Kd.pair (Kd.int .i64) k71))) (wf := fun (y : Int × Int × S71) => ((Lit.int .i64 y.1).wf = true ∧ ((Lit.int .i64 y.2.1).wf = true ∧ ((Lit.int .i64 y.2.2.f0).wf = true ∧ (Lit.int .i64 y.2.2.f1).wf = true ∧ (Lit.int .i64 y.2.2.f2).wf = true ∧ (Lit.int .i64 y.2.2.f3).wf = true ∧ (Lit.int .i64 y.2.2.f4).wf = true ∧ y.2.2.f5.size ≤ maxLen)))) (fun x : S73 => (x.f0, x.f1, x.f2)) (fun y => (⟨y.1, y.2.1, y.2.2⟩ : S73)) (fun _ => rfl) Try.underlying73 (by kernel_rfl) (opnF_cons rfl (by kernel_rfl) (opn_int Try.underlying3) (opnF_cons rfl (by kernel_rfl) (opn_int Try.underlying3) (opnF_one (d := k71) (wf := fun (y : S71) => ((Lit.int .i64 y.f0).wf = true ∧ (Lit.int .i64 y.f1).wf = true ∧ (Lit.int .i64 y.f2).wf = true ∧ (Lit.int .i64 y.f3).wf = true ∧ (Lit.int .i64 y.f4).wf = true ∧ y.f5.size ≤ maxLen)) rfl (by kernel_rfl) o71)))
set_option maxRecDepth 100000 in
set_option maxHeartbeats 4000000 in
theorem lifted (os : Os) (started : os.Started) (H : Type) (enc : TypeId × Value → H) :
    ReturnsInHanded {} Try.checked os 6 .any (Rows.fnExactGatherSpec.pre6 enc Try.prog Try.f6 Rows.fnExactGatherRow.domain false) (Rows.fnExactGatherSpec.post enc Try.prog Try.f6 false true false false) := by
  refine returnsInHanded_of_change_sized (C := Try.checked) own started (by kernel_rfl) Try.func6
    (ChangeSpec.witness6 (enc := enc) (C := Try.checked) false ⟨#[], #[.slice none 0 0], []⟩ 8 (by kernel_rfl) (by kernel_rfl) (by kernel_rfl) (by kernel_rfl)) ?_
  intro W base args ds gs before hval0 hW hcnd hsz0 _
  have hval : ∀ (j : Nat) t v, Try.f6.params[j]? = some t → args[j]? = some v → Value.okWide Try.prog W .any base t v := hval0
  have hW' := hW
  obtain ⟨p, q, hA0, hV, rfl, hfz, hnd⟩ := hW
  have hA : DataW.TrodAll enc Try.prog W 0 (fun _ => true) true Try.f6.params.toList args.toList ds p := hA0
  rw [Try.params6] at hA hval
  obtain ⟨v0, vs0, d0, ds0, p0, q0, hargs, rfl, rfl, h0, r0⟩ := trodAll_cons hA
  obtain ⟨rfl, rfl, rfl⟩ := trodAll_nil r0
  obtain rfl : args = #[v0] := by cases args; simp_all
  obtain ⟨rfl, rfl⟩ := trodVars_none hV
  have k0 := h0
  have lt0 : ∀ x ∈ p0, x.block < W.heap.size := by obtain ⟨m, hm⟩ := k0; exact DataW.trod_lt m _ _ _ hm
  obtain ⟨fu0, hf0⟩ := h0
  obtain ⟨y0, K0, Y0⟩ := (opn_slice Try.underlying46 (by kernel_rfl) o73) H enc W 0 (fun _ => true) true fu0 _ _ hf0
  obtain ⟨a0, len0, cap0, rfl⟩ := okWide_slice Try.underlying46 (hval 0 46 v0 rfl rfl)
  obtain ⟨Ac0, Cc0, Ec0, Lc0, Gc0⟩ := K0
  have es0 : a0 = Ac0 ∧ len0 = y0.length ∧ cap0 = Cc0 := by simpa [Value.cells] using Ec0
  obtain ⟨rfl, rfl, rfl⟩ : Ac0 = a0 ∧ y0.length = len0 ∧ Cc0 = cap0 := ⟨es0.1.symm, es0.2.1.symm, es0.2.2.symm⟩
  clear es0
  obtain ⟨k, hp⟩ := Pure.FnExactGather y0 Y0
  clear hA0 hval0 hsz0
  refine (laws_FnExactGather.calls k Ac0 Cc0 y0 true ⟨rfl⟩ W Gc0 Lc0 hp).mono fun e W' ⟨he, bel0⟩ => ?_
  have bel : Below W.heap.size W W' := bel0
  subst he
  exact ⟨_, rfl, _, _, _, [], _, [], hW', trodAll_mk1 (shut_bool Try.underlying4 _), (trodAll_cons_mk (Below.trod laidOut (by kernel_rfl) (of_decide_eq_true (by kernel_rfl)) k0 bel lt0) trodAll_mk0), rfl, bel.frame _, fun h => by cases h⟩
theorem over : Rows.fnExactGatherRow.holds Try.pinned (OpenSpec.ofChange Rows.fnExactGatherSpec) :=
  OpenClaim.holds_of_wide 6 Try.f6 rfl rfl rfl rfl rfl rfl rfl ⟨rfl, rfl, rfl, rfl, rfl⟩ rfl rfl rfl rfl rfl (by kernel_rfl) Try.func6 (by kernel_rfl)
    (of_decide_eq_true (by kernel_rfl)) (by unfold Func.isWrapper; first | (rw [if_pos (by decide +kernel)]; kernel_rfl) | (rw [if_neg (by decide +kernel)]; exact ⟨rfl, rfl⟩))
    (fun os started H enc _ => lifted os started H enc)
theorem proved : Rows.FnExactGatherSaid := over
#print axioms proved
end Go.Proofs.Ytodokejcmbjpbaa.fnExactGather
namespace Go.Proofs.Ytodokejcmbjpbaa
/-- The row, under a short name, for the claim. -/
theorem fnExactGather_holds : Rows.FnExactGatherSaid := fnExactGather.proved
end Go.Proofs.Ytodokejcmbjpbaa
