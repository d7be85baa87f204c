/- FnRecords: functions of the translation as Lean functions with what their calls come to, plain lemmas on them, and, at the end, the row. Parts of one proof, merged by a program of this session; each part's own sentence stands at its head. -/
import Derived.Test.YtcpgpchdplpfiaaRows
import Derived.WalkKit
import Derived.ProofKit
import Derived.OpenShut
import Derived.ShutString
import Derived.ChangeOld
import Derived.Below
import Derived.SizedLaws
import Derived.Test.YtcpgpchdplpfiaaMFnRecordsc
/- A number read from bytes, as one function; the program's and the reference's ReadVar tell it, and it reads what VarText writes. -/
namespace Go.Proofs.Ytcpgpchdplpfiaa.Pu
set_option linter.unusedVariables false
set_option linter.unusedSimpArgs false
open Go.RowKit Go.Proofs.Ytcpgpchdplpfiaa.PR Go.Proofs.YtcpgpchdplpfiaaW.PrintWords

/-- A text's bytes. -/
def byt (t : ByteArray) : List Nat := t.data.toList.map UInt8.toNat
theorem byt_len (t : ByteArray) : (byt t).length = t.size := by unfold byt; rw [List.length_map, Array.length_toList]; rfl
theorem bt_byt (t : ByteArray) (i : Nat) : bt t (i : Int) = (((byt t).getD i 0 : Nat) : Int) := by
  unfold bt
  by_cases h : i < t.size
  · rw [dif_pos (show ((i : Int)).toNat < t.size from h)]
    rw [List.getD_eq_getElem?_getD, List.getElem?_eq_getElem (by rw [byt_len]; exact h)]
    unfold byt
    rw [List.getElem_map, Array.getElem_toList]
    rfl
  · rw [dif_neg (show ¬ ((i : Int)).toNat < t.size from h), List.getD_eq_getElem?_getD, List.getElem?_eq_none (by rw [byt_len]; omega)]; rfl
theorem byt_lt (t : ByteArray) : ∀ b ∈ byt t, b < 256 := by
  intro b hb
  obtain ⟨x, _, rfl⟩ := List.mem_map.1 hb
  exact UInt8.toNat_lt x
theorem byt_get_lt (t : ByteArray) (i : Nat) : (byt t).getD i 0 < 256 := by
  by_cases h : i < (byt t).length
  · exact byt_lt t _ (getD_mem' h)
  · rw [List.getD_eq_getElem?_getD, List.getElem?_eq_none (by omega)]; exact by decide
theorem byt_inj {s t : ByteArray} (h : byt s = byt t) : s = t := by
  unfold byt at h
  have h2 := (List.map_inj_right (fun a b e => UInt8.toNat_inj.1 e)).1 h
  have h3 := Array.toList_inj.1 h2
  cases s; cases t; simp only at h3; rw [h3]
theorem byt_app (s t : ByteArray) : byt (s ++ t) = byt s ++ byt t := by
  unfold byt
  rw [show (s ++ t).data = s.data ++ t.data from ByteArray.data_append, Array.toList_append, List.map_append]
theorem byt_empty : byt ⟨#[]⟩ = [] := rfl
theorem byt_str (l : List Int) (h : ∀ x ∈ l, 0 ≤ x ∧ x < 256) : byt (strOfNums l) = l.map Int.toNat := by
  unfold byt strOfNums
  rw [List.map_map]
  refine List.map_congr_left fun x hx => ?_
  have := h x hx
  show (UInt8.ofNat x.toNat).toNat = x.toNat
  rw [UInt8.toNat_ofNat']
  omega
theorem byt_sub (t : ByteArray) (a b : Nat) : byt (t.extract a b) = ((byt t).drop a).take (b - a) := by
  unfold byt
  rw [ByteArray.data_extract, Array.toList_extract, List.extract_eq_take_drop, List.map_take, List.map_drop]
theorem toList_iff (s t : ByteArray) : s.toList = t.toList ↔ byt s = byt t := by
  rw [ByteArray.toList_eq, ByteArray.toList_eq]
  constructor
  · intro h; unfold byt; rw [h]
  · intro h; rw [byt_inj h]

theorem varL_byte (n : Nat) : ∀ y ∈ varL n, 0 ≤ y ∧ y < 256 := by
  induction n using Nat.strongRecOn with
  | _ n ih =>
    intro y hy
    by_cases hn : n > 127
    · rw [varL_long hn] at hy
      rcases List.mem_cons.1 hy with hy | hy
      · omega
      · exact ih (n / 128) (by omega) y hy
    · rw [varL_short hn] at hy
      obtain rfl := List.mem_singleton.1 hy
      omega
/-- The number that bytes mean. -/
def valB : List Nat → Nat
  | [] => 0
  | b :: r => b % 128 + 128 * valB r
theorem val_snoc : ∀ (l : List Nat) (x : Nat), valB (l ++ [x]) = valB l + x % 128 * 128 ^ l.length
  | [], x => by simp [valB]
  | b :: r, x => by
    show b % 128 + 128 * valB (r ++ [x]) = b % 128 + 128 * valB r + x % 128 * 128 ^ (r.length + 1)
    rw [val_snoc r x, Nat.mul_add, Nat.pow_succ, ← Nat.add_assoc]
    congr 1
    rw [Nat.mul_comm 128, Nat.mul_assoc]
theorem val_lt : ∀ l : List Nat, valB l < 128 ^ l.length
  | [] => by decide
  | b :: r => by
    have := val_lt r
    show b % 128 + 128 * valB r < 128 ^ (r.length + 1)
    rw [Nat.pow_succ]
    omega
theorem val_pos : ∀ (pre : List Nat) {x : Nat}, x < 128 → x ≠ 0 → 1 ≤ valB (pre ++ [x])
  | [], x, h, h0 => by show 1 ≤ x % 128 + 128 * 0; omega
  | b :: r, x, h, h0 => by
    have := val_pos r h h0
    show 1 ≤ b % 128 + 128 * valB (r ++ [x])
    omega
theorem canon1 : ∀ (pre : List Nat) {x : Nat}, (∀ b ∈ pre, 128 ≤ b ∧ b < 256) → x < 128 → (pre = [] ∨ x ≠ 0) → varL (valB (pre ++ [x])) = (pre ++ [x]).map fun b : Nat => (b : Int)
  | [], x, _, hx, _ => by
    have e : valB ([] ++ [x]) = x := by show x % 128 + 128 * 0 = x; omega
    rw [e, varL_short (by omega)]; rfl
  | b :: r, x, h, hx, h0 => by
    have hx0 : x ≠ 0 := by
      rcases h0 with h0 | h0
      · cases h0
      · exact h0
    have hp := val_pos r hx hx0
    have hb := h b List.mem_cons_self
    have e : valB (b :: r ++ [x]) = b % 128 + 128 * valB (r ++ [x]) := rfl
    rw [e, varL_long (by omega), show (b % 128 + 128 * valB (r ++ [x])) / 128 = valB (r ++ [x]) by omega, canon1 r (fun c hc => h c (List.mem_cons_of_mem _ hc)) hx (.inr hx0)]
    have e3 : (((b % 128 + 128 * valB (r ++ [x])) % 128 + 128 : Nat) : Int) = (b : Int) := by omega
    rw [e3]; rfl
theorem varL_zero {n : Nat} (h : varL n = [0]) : n = 0 := by
  by_cases hn : n > 127
  · rw [varL_long hn] at h
    have h1 := congrArg List.length h
    have h2 := (varL_len n (n / 128) (by
      have : n < 128 ^ n := Nat.lt_pow_self (by decide)
      rw [Nat.pow_succ]; omega)).2
    simp only [List.length_cons, List.length_nil] at h1
    omega
  · rw [varL_short hn] at h
    injection h with h1
    omega
theorem canon2 : ∀ (n : Nat) (l : List Int), varL n = l ++ [0] → l = [] := by
  intro n
  induction n using Nat.strongRecOn with
  | _ n ih =>
    intro l h
    by_cases hn : n > 127
    · rw [varL_long hn] at h
      cases l with
      | nil => rfl
      | cons c l =>
        injection h with h1 h2
        have := ih (n / 128) (by omega) l h2
        subst this
        have := varL_zero h2
        omega
    · rw [varL_short hn] at h
      cases l with
      | nil => rfl
      | cons c l =>
        injection h with h1 h2
        have := congrArg List.length h2
        simp at this
/-- A number read from bytes: the number, and how many bytes. -/
def rvL : List Nat → Nat → Nat → Nat → Option (Nat × Nat)
  | _, 0, _, _ => none
  | [], _ + 1, _, _ => none
  | x :: r, d + 1, k, n => if x ≥ 128 then rvL r d (k + 1) (n + x % 128 * 128 ^ k) else if (x = 0 ∧ k > 0) ∨ n + x % 128 * 128 ^ k > 1000000000 then none else some (n + x % 128 * 128 ^ k, k + 1)
def rvRes (a : Int) : Option (Nat × Nat) → Int × Int × Bool
  | none => (0, 0, false)
  | some z => ((z.1 : Int), a + (z.2 : Int), true)
def rvB (t : ByteArray) (a : Int) : Int × Int × Bool := if 0 ≤ a ∧ a ≤ (t.size : Int) then rvRes a (rvL ((byt t).drop a.toNat) 5 0 0) else (0, 0, false)
theorem drop_byt {t : ByteArray} {i : Nat} (h : i < t.size) : (byt t).drop i = (byt t).getD i 0 :: (byt t).drop (i + 1) := by
  rw [List.drop_eq_getElem_cons (by rw [byt_len]; exact h), List.getD_eq_getElem?_getD, List.getElem?_eq_getElem (by rw [byt_len]; exact h)]; rfl
theorem shl7 {x k : Nat} (hx : x < 128) (hk : k < 5) : shl .i64 (x : Int) (wrap64 (7 * (k : Int))) = ((x * 128 ^ k : Nat) : Int) := by
  have e : wrap64 (7 * (k : Int)) = 7 * (k : Int) := w64 (by omega) (by omega)
  rw [e]
  have h := shl_small (k := .i64) (x := (x : Int)) (y := 7 * (k : Int)) rfl (by show (7 * (k : Int)) ≤ ((IntKind.bits .i64 : Nat) : Int); rw [show IntKind.bits .i64 = 64 from rfl]; omega)
  rw [← h, show (7 * (k : Int)).toNat = 7 * k by omega]
  have p : (128 : Nat) ^ k = 2 ^ (7 * k) := by rw [Nat.pow_mul]
  have q : (128 : Nat) ^ k ≤ 128 ^ 4 := Nat.pow_le_pow_right (by decide) (by omega)
  have e2 : (x : Int) * 2 ^ (7 * k) = ((x * 128 ^ k : Nat) : Int) := by rw [p]; push_cast; rfl
  rw [e2, Go.IntKind.wrap_i64]
  have : x * 128 ^ k ≤ 127 * 128 ^ 4 := Nat.mul_le_mul (by omega) q
  omega
theorem tmod128 (x : Nat) : Int.tmod (wrap64 ((x : Nat) : Int)) 128 = (((if x < 9223372036854775808 then x % 128 else 0 : Nat)) : Int) ∨ 9223372036854775808 ≤ x := by
  by_cases h : x < 9223372036854775808
  · left; rw [if_pos h, w64 (by omega) (by omega), Int.tmod_eq_emod_of_nonneg (by omega)]; omega
  · right; omega
theorem tmod128' {x : Nat} (h : x < 256) : Int.tmod (wrap64 ((x : Nat) : Int)) 128 = ((x % 128 : Nat) : Int) := by
  rw [w64 (by omega) (by omega), Int.tmod_eq_emod_of_nonneg (by omega)]; omega
theorem pow5 {k : Nat} (h : k ≤ 5) : (128 : Nat) ^ k ≤ 34359738368 := Nat.le_trans (Nat.pow_le_pow_right (by decide) h) (by decide)
theorem step_lt {n x k : Nat} (hn : n < 128 ^ k) : n + x % 128 * 128 ^ k < 128 ^ (k + 1) := by
  rw [Nat.pow_succ]
  have : x % 128 * 128 ^ k ≤ 127 * 128 ^ k := Nat.mul_le_mul_right _ (by omega)
  omega
theorem rvL_zero (l : List Nat) (k n : Nat) : rvL l 0 k n = none := by cases l <;> rfl
theorem rvL_nil (d k n : Nat) : rvL [] d k n = none := by cases d <;> rfl
theorem rvL_cons (x : Nat) (r : List Nat) (d k n : Nat) : rvL (x :: r) (d + 1) k n = if x ≥ 128 then rvL r d (k + 1) (n + x % 128 * 128 ^ k) else if (x = 0 ∧ k > 0) ∨ n + x % 128 * 128 ^ k > 1000000000 then none else some (n + x % 128 * 128 ^ k, k + 1) := by rw [rvL]
theorem res_some {a : Int} {M k : Nat} {b : Int} (h : b = a + ((k + 1 : Nat) : Int)) : some ((M : Int), b, true) = some (rvRes a (some (M, k + 1))) := by subst h; rfl
theorem iRV_step (K : Nat) (t : ByteArray) (a k n x M : Nat) (hs : t.size ≤ 1099511627776) (hk : k < 5) (hlt : a + k < t.size) (hx : x < 256) (eb : bt t ((a + k : Nat) : Int) = (x : Int)) (hM : n + x % 128 * 128 ^ k = M) (hM2 : M ≤ 34359738368) :
    impl_ReadVar.j1 (K + 1) t (a : Int) (n : Int) (k : Int) true = if x ≥ 128 then impl_ReadVar.l0 K t (a : Int) (M : Int) ((k + 1 : Nat) : Int) else some (rvRes (a : Int) (if (x = 0 ∧ k > 0) ∨ M > 1000000000 then none else some (M, k + 1))) := by
  have en : wrap64 ((n : Int) + shl .i64 (Int.tmod (wrap64 ((x : Nat) : Int)) 128) (wrap64 (7 * (k : Int)))) = (M : Int) := by
    rw [tmod128' hx, shl7 (by omega) hk, w64 (by omega) (by omega)]; omega
  have ea : wrap64 ((a : Int) + (k : Int)) = ((a + k : Nat) : Int) := by rw [w64 (by omega) (by omega)]; omega
  have wx : wrap64 ((x : Nat) : Int) = (x : Int) := w64 (by omega) (by omega)
  have e7 : (0 : Int) ≤ wrap64 (7 * (k : Int)) := by rw [w64 (by omega) (by omega)]; omega
  clear hM
  rw [wx] at en
  simp only [impl_ReadVar.j1, ea, eb, en, wx, if_true, if_pos (show (0 : Int) ≤ ((a + k : Nat) : Int) by omega), if_pos (show ((a + k : Nat) : Int) < (t.size : Int) by omega), if_pos e7, wsucc (n := 5) hk (by omega), wsucc (n := t.size) hlt (by omega)]
  by_cases h1 : x ≥ 128
  · rw [if_pos (by omega), if_pos h1]
  · rw [if_neg (by omega), if_neg h1]
    by_cases h4 : M > 1000000000
    · rw [if_pos (show (x = 0 ∧ k > 0) ∨ M > 1000000000 from .inr h4)]
      by_cases h2 : (x : Int) = 0
      · rw [if_pos h2]
        by_cases h3 : (k : Int) > 0
        · rw [if_pos h3]; rfl
        · rw [if_neg h3, if_pos (by omega)]; rfl
      · rw [if_neg h2, if_pos (by omega)]; rfl
    · by_cases h2 : (x : Int) = 0
      · rw [if_pos h2]
        by_cases h3 : (k : Int) > 0
        · rw [if_pos h3, if_pos (show (x = 0 ∧ k > 0) ∨ M > 1000000000 from .inl ⟨by omega, by omega⟩)]; rfl
        · rw [if_neg h3, if_neg (by omega), if_neg (by omega)]
          exact res_some (by omega)
      · rw [if_neg h2, if_neg (by omega), if_neg (by omega)]
        exact res_some (by omega)
theorem iReadVar_ev (t : ByteArray) (a : Int) (hs : t.size ≤ 1099511627776) (ha : a ≤ (t.size : Int)) : Ev (fun k => impl_ReadVar.f k t a) (rvB t a) := by
  unfold impl_ReadVar.f rvB
  by_cases h0 : 0 ≤ a
  · rw [if_pos ⟨h0, ha⟩]
    obtain ⟨a, rfl⟩ : ∃ m : Nat, a = (m : Int) := ⟨a.toNat, by omega⟩
    rw [Int.toNat_natCast]
    have main : ∀ (d k n : Nat), k + d = 5 → n < 128 ^ k → Ev (fun K => impl_ReadVar.l0 K t (a : Int) (n : Int) (k : Int)) (rvRes (a : Int) (rvL ((byt t).drop (a + k)) d k n)) := by
      intro d
      induction d with
      | zero =>
        intro k n hk hn
        rw [rvL_zero]
        refine Ev.step (f := fun K => impl_ReadVar.j1 K t (a : Int) (n : Int) (k : Int) false) (fun K => by simp only [impl_ReadVar.l0]; rw [if_neg (by omega)]) (ev_some fun K => ?_)
        simp only [impl_ReadVar.j1]
        rfl
      | succ d ih =>
        intro k n hk hn
        refine Ev.step (f := fun K => impl_ReadVar.j1 K t (a : Int) (n : Int) (k : Int) (decide ((a + k : Nat) < t.size))) (fun K => ?_) ?_
        · simp only [impl_ReadVar.l0]
          rw [if_pos (by omega), if_pos (by omega), w64 (x := (t.size : Int) - k) (by omega) (by omega)]
          congr 1
          exact decide_eq_decide.2 (by omega)
        · by_cases hlt : a + k < t.size
          · rw [decide_eq_true hlt, drop_byt hlt, rvL_cons]
            have hx := byt_get_lt t (a + k)
            have eb := bt_byt t (a + k)
            generalize (byt t).getD (a + k) 0 = x at hx eb ⊢
            have sl := step_lt (x := x) hn
            have p6 := pow5 (show k + 1 ≤ 5 by omega)
            have st := fun K => iRV_step K t a k n x _ hs (by omega) hlt hx eb rfl (by omega)
            by_cases h1 : x ≥ 128
            · rw [if_pos h1]
              exact Ev.step (fun K => by rw [st K, if_pos h1]) (ih (k + 1) _ (by omega) sl)
            · rw [if_neg h1]
              exact ev_some fun K => by rw [st K, if_neg h1]
          · rw [decide_eq_false hlt, List.drop_eq_nil_of_le (by rw [byt_len]; omega), rvL_nil]
            refine ev_some fun K => ?_
            simp only [impl_ReadVar.j1]
            rfl
    exact main 5 0 0 rfl (by decide)
  · rw [if_neg (fun h => h0 h.1)]
    refine Ev.step (f := fun K => impl_ReadVar.j1 K t a 0 0 false) (fun K => by simp only [impl_ReadVar.l0]; rw [if_pos (by omega), if_neg (by omega)]) (ev_some fun K => ?_)
    simp only [impl_ReadVar.j1]
    rfl
theorem natcast_map {V : List Int} (h : ∀ y ∈ V, 0 ≤ y) : (V.map Int.toNat).map (fun b : Nat => (b : Int)) = V := by
  induction V with
  | nil => rfl
  | cons y V ih =>
    have := h y List.mem_cons_self
    show ((y.toNat : Nat) : Int) :: (V.map Int.toNat).map (fun b : Nat => (b : Int)) = y :: V
    rw [ih fun z hz => h z (List.mem_cons_of_mem _ hz), show ((y.toNat : Nat) : Int) = y by omega]
theorem toNat_map : ∀ l : List Nat, (l.map fun b : Nat => (b : Int)).map Int.toNat = l
  | [] => rfl
  | y :: l => by
    show ((y : Nat) : Int).toNat :: (l.map fun b : Nat => (b : Int)).map Int.toNat = y :: l
    rw [toNat_map l, Int.toNat_natCast]
/-- What the reference holds a number's bytes against. -/
theorem sRV_key {t : ByteArray} {a k x : Nat} {pre : List Nat} (hl : pre.length = k) (es : (byt t).drop a = (pre ++ [x]) ++ (byt t).drop (a + (k + 1))) (hb : ∀ b ∈ pre, 128 ≤ b ∧ b < 256) (hx : x < 128) :
    (strOfNums (varL (valB (pre ++ [x])))).toList = (t.extract a (a + k + 1)).toList ↔ (pre = [] ∨ x ≠ 0) := by
  have seg : byt (t.extract a (a + k + 1)) = pre ++ [x] := by
    rw [byt_sub, es, show a + k + 1 - a = (pre ++ [x]).length by simp; omega, List.take_left]
  have vb := varL_byte (valB (pre ++ [x]))
  rw [toList_iff, seg, byt_str _ vb]
  constructor
  · intro h
    by_cases h0 : x = 0
    · left
      subst h0
      have e2 := congrArg (List.map fun b : Nat => (b : Int)) h
      rw [natcast_map fun y hy => (vb y hy).1] at e2
      rw [List.map_append] at e2
      exact List.map_eq_nil_iff.1 (canon2 _ _ e2)
    · exact .inr h0
  · intro h
    rw [canon1 pre hb hx h, toNat_map]
theorem sRV_step (K : Nat) (t : ByteArray) (a k n x M P : Nat) (hs : t.size ≤ 1099511627776) (hk : k < 5) (hlt : a + k < t.size) (hx : x < 256) (eb : bt t ((a + k : Nat) : Int) = (x : Int)) (hP : 128 ^ k = P) (hM : n + x % 128 * P = M) (hM2 : M ≤ 34359738368) (hP2 : P ≤ 268435456) :
    spec_ReadVar.j1 (K + 1) t (a : Int) (n : Int) (P : Int) ((a + k : Nat) : Int) true = if x ≥ 128 then spec_ReadVar.l0 K t (a : Int) (M : Int) ((P * 128 : Nat) : Int) ((a + (k + 1) : Nat) : Int) else if M > 1000000000 then some (0, 0, false) else (spec_l01Var.f K (M : Int)).bind fun t116 => if t116.toList = (t.extract a (a + k + 1)).toList then some ((M : Int), ((a + k + 1 : Nat) : Int), true) else some (0, 0, false) := by
  have en : wrap64 ((n : Int) + wrap64 (Int.tmod (wrap64 ((x : Nat) : Int)) 128 * (P : Int))) = (M : Int) := by
    rw [tmod128' hx, ← Int.natCast_mul, w64 (x := ((x % 128 * P : Nat) : Int)) (by omega) (by omega), w64 (by omega) (by omega)]; omega
  have ep : wrap64 ((P : Int) * 128) = ((P * 128 : Nat) : Int) := by rw [w64 (by omega) (by omega)]; omega
  clear hM hP
  simp only [spec_ReadVar.j1, eb, en, ep, if_true, if_pos (show (0 : Int) ≤ ((a + k : Nat) : Int) by omega), if_pos (show ((a + k : Nat) : Int) < (t.size : Int) by omega), wsucc (n := t.size) hlt (by omega), Int.toNat_natCast, if_pos (show (0 : Int) ≤ (a : Int) by omega), if_pos (show (a : Int) ≤ ((a + k + 1 : Nat) : Int) by omega), if_pos (show ((a + k + 1 : Nat) : Int) ≤ (t.size : Int) by omega)]
  by_cases h1 : x ≥ 128
  · rw [if_neg (by omega), if_pos h1]; rfl
  · rw [if_pos (by omega), if_neg h1]
    by_cases h4 : M > 1000000000
    · rw [if_pos (by omega), if_pos h4]
    · rw [if_neg (by omega), if_neg h4]
theorem sReadVar_ev (t : ByteArray) (a : Int) (hs : t.size ≤ 1099511627776) : Ev (fun k => spec_ReadVar.f k t a) (rvB t a) := by
  unfold spec_ReadVar.f rvB
  have hin : spec_l01In.f a 0 (t.size : Int) = some (decide (0 ≤ a ∧ a ≤ (t.size : Int))) := by
    unfold spec_l01In.f
    by_cases h1 : a ≥ 0
    · rw [if_pos h1]; congr 1; simp; omega
    · rw [if_neg h1]; congr 1; simp; omega
  simp only [hin, Option.bind_some, decide_eq_true_eq]
  by_cases h0 : 0 ≤ a ∧ a ≤ (t.size : Int)
  · simp only [if_pos h0]
    obtain ⟨a, rfl⟩ : ∃ m : Nat, a = (m : Int) := ⟨a.toNat, by omega⟩
    rw [Int.toNat_natCast]
    have main : ∀ (d k : Nat) (pre : List Nat), k + d = 5 → pre.length = k → (byt t).drop a = pre ++ (byt t).drop (a + k) → (∀ b ∈ pre, 128 ≤ b ∧ b < 256) → Ev (fun K => spec_ReadVar.l0 K t (a : Int) (valB pre : Int) ((128 ^ k : Nat) : Int) ((a + k : Nat) : Int)) (rvRes (a : Int) (rvL ((byt t).drop (a + k)) d k (valB pre))) := by
      intro d
      induction d with
      | zero =>
        intro k pre hk hl hp hb
        rw [rvL_zero]
        refine Ev.step (f := fun K => spec_ReadVar.j1 K t (a : Int) (valB pre : Int) ((128 ^ k : Nat) : Int) ((a + k : Nat) : Int) false) (fun K => ?_) (ev_some fun K => ?_)
        · simp only [spec_ReadVar.l0]
          by_cases h : ((a + k : Nat) : Int) < (t.size : Int)
          · rw [if_pos h, w64 (x := (a : Int) + 5) (by omega) (by omega), decide_eq_false (by omega)]
          · rw [if_neg h]
        · simp only [spec_ReadVar.j1]
          rfl
      | succ d ih =>
        intro k pre hk hl hp hb
        have hn : valB pre < 128 ^ k := hl ▸ val_lt pre
        refine Ev.step (f := fun K => spec_ReadVar.j1 K t (a : Int) (valB pre : Int) ((128 ^ k : Nat) : Int) ((a + k : Nat) : Int) (decide ((a + k : Nat) < t.size))) (fun K => ?_) ?_
        · simp only [spec_ReadVar.l0]
          by_cases h : ((a + k : Nat) : Int) < (t.size : Int)
          · rw [if_pos h, w64 (x := (a : Int) + 5) (by omega) (by omega), decide_eq_true (show ((a + k : Nat) : Int) < (a : Int) + 5 by omega), decide_eq_true (show a + k < t.size by omega)]
          · rw [if_neg h, decide_eq_false (show ¬ a + k < t.size by omega)]
        · by_cases hlt : a + k < t.size
          · rw [decide_eq_true hlt, drop_byt hlt, rvL_cons]
            have hx := byt_get_lt t (a + k)
            have hd := drop_byt hlt
            have eb := bt_byt t (a + k)
            generalize (byt t).getD (a + k) 0 = x at hx eb hd ⊢
            have sl := step_lt (x := x) hn
            have p6 := pow5 (show k + 1 ≤ 5 by omega)
            have q4 : (128 : Nat) ^ k ≤ 268435456 := Nat.le_trans (Nat.pow_le_pow_right (by decide) (show k ≤ 4 by omega)) (by decide)
            have vs : valB (pre ++ [x]) = valB pre + x % 128 * 128 ^ k := by rw [val_snoc, hl]
            have es : (byt t).drop a = (pre ++ [x]) ++ (byt t).drop (a + (k + 1)) := by rw [hp, hd]; simp [Nat.add_assoc]
            rw [← vs] at sl ⊢
            have st := fun K => sRV_step K t a k (valB pre) x (valB (pre ++ [x])) _ hs (by omega) hlt hx eb rfl vs.symm (by omega) q4
            by_cases h1 : x ≥ 128
            · rw [if_pos h1]
              exact Ev.step (fun K => by rw [st K, if_pos h1, ← Nat.pow_succ]) (ih (k + 1) (pre ++ [x]) (by omega) (by simp; omega) es (fun b hb' => by
                rcases List.mem_append.1 hb' with hb' | hb'
                · exact hb b hb'
                · obtain rfl := List.mem_singleton.1 hb'; exact ⟨h1, hx⟩))
            · rw [if_neg h1]
              have key := sRV_key hl es hb (by omega)
              have hv := fun h => l01Var_ev (n := (valB (pre ++ [x]) : Int)) (by omega) h
              rw [Int.toNat_natCast] at hv
              clear vs
              generalize valB (pre ++ [x]) = M at st key hv sl ⊢
              by_cases h4 : M > 1000000000
              · rw [if_pos (.inr h4)]
                exact ev_some fun K => by rw [st K, if_neg h1, if_pos h4]; rfl
              · refine Ev.step (fun K => by rw [st K, if_neg h1, if_neg h4]) (ev_bind (hv (by omega)) ?_)
                by_cases h2 : pre = [] ∨ x ≠ 0
                · rw [if_pos (key.2 h2), if_neg (fun h => by
                    rcases h with ⟨h5, h6⟩ | h
                    · rcases h2 with h2 | h2
                      · rw [h2] at hl; simp at hl; omega
                      · exact h2 h5
                    · exact h4 h)]
                  exact ev_const (res_some (by omega))
                · rw [if_neg (fun h => h2 (key.1 h)), if_pos (.inl ⟨by
                    by_cases h5 : x = 0
                    · exact h5
                    · exact absurd (.inr h5) h2, by
                    cases pre with
                    | nil => exact absurd (.inl rfl) h2
                    | cons b r => simp at hl; omega⟩)]
                  exact Ev.now _
          · rw [decide_eq_false hlt, List.drop_eq_nil_of_le (by rw [byt_len]; omega), rvL_nil]
            refine ev_some fun K => ?_
            simp only [spec_ReadVar.j1]
            rfl
    exact main 5 0 [] rfl rfl rfl (fun b hb => by cases hb)
  · simp only [if_neg h0]
    exact Ev.now _
end Go.Proofs.Ytcpgpchdplpfiaa.Pu

/- When a record is right, as one test; the program's and the reference's RecOk answer it. -/
namespace Go.Proofs.Ytcpgpchdplpfiaa.Pu
set_option linter.unusedVariables false
set_option linter.unusedSimpArgs false
open Go.RowKit Go.Proofs.Ytcpgpchdplpfiaa.PR Go.Proofs.YtcpgpchdplpfiaaW.PrintWords

theorem in_eq' (a l h : Int) : impl_in.f a l h = some (decide (l ≤ a ∧ a ≤ h)) := by
  unfold impl_in.f
  by_cases h1 : a ≥ l
  · rw [if_pos h1]; congr 1; simp; omega
  · rw [if_neg h1]; congr 1; simp; omega
theorem l01In_eq' (a l h : Int) : spec_l01In.f a l h = some (decide (l ≤ a ∧ a ≤ h)) := by
  unfold spec_l01In.f
  by_cases h1 : a ≥ l
  · rw [if_pos h1]; congr 1; simp; omega
  · rw [if_neg h1]; congr 1; simp; omega
theorem some_dec {b : Bool} {P : Prop} [Decidable P] (h : b = true ↔ P) : some b = some (decide P) := by
  congr 1
  rw [Bool.eq_iff_iff, decide_eq_true_eq]
  exact h

/-- A record is right. -/
def recOk (t v a c : Int) : Bool := decide (0 ≤ a ∧ a ≤ 1000000000 ∧ ((t = 1 ∧ v = 0 ∧ c = 0) ∨ (1 ≤ v ∧ v ≤ 9 ∧ ((t = 2 ∧ c = 0 ∧ a ≤ 9) ∨ (t = 3 ∧ c = 0 ∧ a = 0) ∨ (t = 4 ∧ a ≤ 15 ∧ 1 ≤ c ∧ c ≤ 1000000000) ∨ (t = 5 ∧ c = 0 ∧ a ≤ 15)))))
theorem impl_RecOk_eq (k : Nat) (t v a c : Int) : impl_RecOk.f (k + 1) t v a c = some (recOk t v a c) := by
  unfold impl_RecOk.f impl_RecOk.j0 recOk
  simp only [in_eq', Option.bind_some]
  repeat' split
  all_goals (refine some_dec ?_)
  all_goals (simp only [beq_iff_eq, bne_iff_ne, ne_eq, decide_eq_true_eq, Bool.false_eq_true, false_iff, not_true_eq_false, not_false_eq_true] at *)
  all_goals omega
theorem spec_RecOk_eq (k : Nat) (t v a c : Int) : spec_RecOk.f (k + 1) t v a c = some (recOk t v a c) := by
  unfold spec_RecOk.f spec_RecOk.j0 recOk
  simp only [l01In_eq', Option.bind_some]
  repeat' split
  all_goals (refine some_dec ?_)
  all_goals (simp only [beq_iff_eq, bne_iff_ne, ne_eq, decide_eq_true_eq, Bool.false_eq_true, false_iff, not_true_eq_false, not_false_eq_true] at *)
  all_goals omega
theorem iRecOk_ev (t v a c : Int) : Ev (fun k => impl_RecOk.f k t v a c) (recOk t v a c) := ev_some fun k => impl_RecOk_eq k t v a c
theorem sRecOk_ev (t v a c : Int) : Ev (fun k => spec_RecOk.f k t v a c) (recOk t v a c) := ev_some fun k => spec_RecOk_eq k t v a c
theorem recOk_range {t v a c : Int} (h : recOk t v a c = true) : 1 ≤ t ∧ t ≤ 5 ∧ 0 ≤ v ∧ v ≤ 9 ∧ 0 ≤ a ∧ a ≤ 1000000000 ∧ 0 ≤ c ∧ c ≤ 1000000000 := by
  unfold recOk at h
  rw [decide_eq_true_eq] at h
  omega
end Go.Proofs.Ytcpgpchdplpfiaa.Pu

/- Records read from bytes, as one function; the program's and the reference's ReadRecs tell them. -/
namespace Go.Proofs.Ytcpgpchdplpfiaa.Pu
set_option linter.unusedVariables false
set_option linter.unusedSimpArgs false
open Go.RowKit Go.Proofs.Ytcpgpchdplpfiaa.PR Go.Proofs.YtcpgpchdplpfiaaW.PrintWords

theorem rvL_range : ∀ (l : List Nat) (d k n : Nat) {m c : Nat}, rvL l d k n = some (m, c) → k + 1 ≤ c ∧ c ≤ k + l.length ∧ m ≤ 1000000000
  | l, 0, k, n, m, c, h => by rw [rvL_zero] at h; cases h
  | [], d + 1, k, n, m, c, h => by rw [rvL_nil] at h; cases h
  | x :: r, d + 1, k, n, m, c, h => by
    rw [rvL_cons] at h
    by_cases h1 : x ≥ 128
    · rw [if_pos h1] at h
      have := rvL_range r d (k + 1) _ h
      simp only [List.length_cons]
      omega
    · rw [if_neg h1] at h
      by_cases h2 : (x = 0 ∧ k > 0) ∨ n + x % 128 * 128 ^ k > 1000000000
      · rw [if_pos h2] at h; cases h
      · rw [if_neg h2] at h
        injection h with h
        injection h with h3 h4
        simp only [List.length_cons]
        omega
theorem rvB_range (t : ByteArray) (a : Int) : ((rvB t a).2.2 = false ∧ rvB t a = (0, 0, false)) ∨ ((rvB t a).2.2 = true ∧ 0 ≤ a ∧ a < (rvB t a).2.1 ∧ (rvB t a).2.1 ≤ (t.size : Int) ∧ 0 ≤ (rvB t a).1 ∧ (rvB t a).1 ≤ 1000000000) := by
  unfold rvB
  by_cases h : 0 ≤ a ∧ a ≤ (t.size : Int)
  · rw [if_pos h]
    cases e : rvL ((byt t).drop a.toNat) 5 0 0 with
    | none => exact .inl ⟨rfl, rfl⟩
    | some z =>
      obtain ⟨m, c⟩ := z
      have h1 := rvL_range _ _ _ _ e
      rw [List.length_drop, byt_len] at h1
      refine .inr ⟨rfl, ?_⟩
      show 0 ≤ a ∧ a < a + (c : Int) ∧ a + (c : Int) ≤ (t.size : Int) ∧ 0 ≤ (m : Int) ∧ (m : Int) ≤ 1000000000
      omega
  · rw [if_neg h]; exact .inl ⟨rfl, rfl⟩
def recAt (t : ByteArray) (i : Nat) : S34 := ⟨(((byt t).getD i 0 / 16 : Nat) : Int), (((byt t).getD i 0 % 16 : Nat) : Int), (rvB t ((i + 1 : Nat) : Int)).1, (rvB t (rvB t ((i + 1 : Nat) : Int)).2.1).1⟩
def recEnd (t : ByteArray) (i : Nat) : Int := (rvB t (rvB t ((i + 1 : Nat) : Int)).2.1).2.1
def recMay (t : ByteArray) (i : Nat) : Bool := (rvB t ((i + 1 : Nat) : Int)).2.2 && (rvB t (rvB t ((i + 1 : Nat) : Int)).2.1).2.2
def rrB (t : ByteArray) : Nat → Nat → List S34 → List S34 × Bool
  | 0, _, acc => (acc, true)
  | d + 1, i, acc => if i < t.size then (if (recMay t i && recOk (recAt t i).f0 (recAt t i).f1 (recAt t i).f2 (recAt t i).f3) = true then rrB t d (recEnd t i).toNat (acc ++ [recAt t i]) else ([], false)) else (acc, true)
theorem rrB_len (t : ByteArray) : ∀ (d i : Nat) (acc : List S34), (rrB t d i acc).1.length ≤ acc.length + d
  | 0, i, acc => Nat.le_refl _
  | d + 1, i, acc => by
    unfold rrB
    by_cases h : i < t.size
    · rw [if_pos h]
      by_cases h2 : (recMay t i && recOk (recAt t i).f0 (recAt t i).f1 (recAt t i).f2 (recAt t i).f3) = true
      · rw [if_pos h2]
        have := rrB_len t d (recEnd t i).toNat (acc ++ [recAt t i])
        simp only [List.length_append, List.length_cons, List.length_nil] at this
        omega
      · rw [if_neg h2]; exact Nat.zero_le _
    · rw [if_neg h]; show acc.length ≤ _; omega
theorem div16 {x : Nat} (h : x < 256) : wrap64 (Int.tdiv (wrap64 ((x : Nat) : Int)) 16) = ((x / 16 : Nat) : Int) ∧ Int.tmod (wrap64 ((x : Nat) : Int)) 16 = ((x % 16 : Nat) : Int) := by
  rw [w64 (x := ((x : Nat) : Int)) (by omega) (by omega), Int.tdiv_eq_ediv_of_nonneg (by omega), Int.tmod_eq_emod_of_nonneg (by omega), w64 (by omega) (by omega)]
  omega
theorem iReadRecs_ev (t : ByteArray) (hs : t.size ≤ 1048576) : Ev (fun k => impl_ReadRecs.f k t) (rrB t (t.size + 1) 0 []) := by
  unfold impl_ReadRecs.f
  have main : ∀ (d i : Nat) (acc : List S34), t.size < i + d → i ≤ t.size → acc.length ≤ i → Ev (fun K => impl_ReadRecs.l0 K t acc (i : Int)) (rrB t d i acc) := by
    intro d
    induction d with
    | zero => intro i acc h1 h2 _; omega
    | succ d ih =>
      intro i acc h1 h2 h3
      unfold rrB
      by_cases hi : i < t.size
      · rw [if_pos hi]
        have hx := byt_get_lt t i
        have eb := bt_byt t i
        obtain ⟨d1, d2⟩ := div16 hx
        have A := rvB_range t ((i + 1 : Nat) : Int)
        have C := rvB_range t (rvB t ((i + 1 : Nat) : Int)).2.1
        have ea := iReadVar_ev t ((i + 1 : Nat) : Int) (by omega) (by omega)
        have ec := iReadVar_ev t (rvB t ((i + 1 : Nat) : Int)).2.1 (by omega) (by
          rcases A with ⟨_, h⟩ | h
          · rw [h]; show (0 : Int) ≤ _; omega
          · omega)
        refine Ev.step (f := fun K => (impl_ReadVar.f K t ((i + 1 : Nat) : Int)).bind fun bt150 => (impl_ReadVar.f K t bt150.2.1).bind fun bt153 => if 0 ≤ (i : Int) then (if bt150.2.2 = true then (if bt153.2.2 = true then ((impl_RecOk.f K (((byt t).getD i 0 / 16 : Nat) : Int) (((byt t).getD i 0 % 16 : Nat) : Int) bt150.1 bt153.1).bind fun t157 => (if t157 = true then impl_ReadRecs.l0 K t (acc ++ [(⟨(((byt t).getD i 0 / 16 : Nat) : Int), (((byt t).getD i 0 % 16 : Nat) : Int), bt150.1, bt153.1⟩ : S34)]) bt153.2.1 else some ([], false))) else some ([], false)) else some ([], false)) else none) (fun K => ?_) (ev_bind ea (ev_bind ec ?_))
        · simp only [impl_ReadRecs.l0]
          rw [if_pos (by omega), wsucc (n := t.size) hi (by omega), eb, d1, d2]
          simp only [if_pos (show acc.length < 4398046511104 by omega)]
        · simp only [if_pos (show (0 : Int) ≤ (i : Int) by omega)]
          unfold recMay
          rcases A with ⟨h4, h5⟩ | ⟨h4, h5⟩
          · rw [h4]; exact Ev.now _
          · simp only [h4, if_true, Bool.true_and]
            rcases C with ⟨h6, h7⟩ | ⟨h6, h7⟩
            · rw [h6]; exact Ev.now _
            · simp only [h6, if_true, Bool.true_and]
              refine ev_bind (iRecOk_ev _ _ _ _) ?_
              show Ev (fun K => if recOk (recAt t i).f0 (recAt t i).f1 (recAt t i).f2 (recAt t i).f3 = true then impl_ReadRecs.l0 K t (acc ++ [recAt t i]) (recEnd t i) else some ([], false)) _
              by_cases h8 : recOk (recAt t i).f0 (recAt t i).f1 (recAt t i).f2 (recAt t i).f3 = true
              · simp only [if_pos h8]
                have h9 : recEnd t i = (((recEnd t i).toNat : Nat) : Int) := by unfold recEnd; omega
                rw [h9, Int.toNat_natCast]
                exact ih (recEnd t i).toNat (acc ++ [recAt t i]) (by unfold recEnd; omega) (by unfold recEnd; omega) (by simp only [List.length_append, List.length_cons, List.length_nil]; unfold recEnd; omega)
              · simp only [if_neg h8]; exact Ev.now _
      · rw [if_neg hi]
        exact ev_some fun K => by simp only [impl_ReadRecs.l0]; rw [if_neg (by omega)]
  exact main (t.size + 1) 0 [] (by omega) (by omega) (by simp)
theorem sVar_ok (t : ByteArray) (a : Int) (hs : t.size ≤ 1048576) : Ev (fun k => spec_l06Var.f k t a false) (if (rvB t a).2.2 = true then ((rvB t a).1, t, (rvB t a).2.1, false) else (0, t, a, true)) := by
  unfold spec_l06Var.f
  refine ev_bind (sReadVar_ev t a (by omega)) ?_
  simp only [Bool.false_eq_true, if_false]
  by_cases h : (rvB t a).2.2 = true
  · simp only [if_pos h]; exact Ev.now _
  · simp only [if_neg h]; exact Ev.now _
theorem sVar_bad (t : ByteArray) (a : Int) (hs : t.size ≤ 1048576) : Ev (fun k => spec_l06Var.f k t a true) (0, t, a, true) := by
  unfold spec_l06Var.f
  refine ev_bind (sReadVar_ev t a (by omega)) ?_
  simp only [if_true]; exact Ev.now _
theorem sReadRecs_ev (t : ByteArray) (hs : t.size ≤ 1048576) : Ev (fun k => spec_ReadRecs.f k t) (rrB t (t.size + 1) 0 []) := by
  unfold spec_ReadRecs.f
  have main : ∀ (d i : Nat) (acc : List S34), t.size < i + d → i ≤ t.size → acc.length ≤ i → Ev (fun K => spec_ReadRecs.l0 K t acc t (i : Int) false) (rrB t d i acc) := by
    intro d
    induction d with
    | zero => intro i acc h1 h2 _; omega
    | succ d ih =>
      intro i acc h1 h2 h3
      unfold rrB
      by_cases hi : i < t.size
      · rw [if_pos hi]
        have hx := byt_get_lt t i
        have eb := bt_byt t i
        obtain ⟨d1, d2⟩ := div16 hx
        have A := rvB_range t ((i + 1 : Nat) : Int)
        have C := rvB_range t (rvB t ((i + 1 : Nat) : Int)).2.1
        have ea := sVar_ok t ((i + 1 : Nat) : Int) hs
        have ec := sVar_ok t (rvB t ((i + 1 : Nat) : Int)).2.1 hs
        refine Ev.step (f := fun K => spec_ReadRecs.j1 K t acc true t (i : Int) false) (fun K => by simp only [spec_ReadRecs.l0]; rw [if_pos (by omega)]; rfl) ?_
        refine Ev.step (f := fun K => (spec_l06Var.f K t ((i + 1 : Nat) : Int) false).bind fun bt124 => (spec_l06Var.f K bt124.2.1 bt124.2.2.1 bt124.2.2.2).bind fun bt129 => if bt129.2.2.2 = true then some ([], false) else (spec_RecOk.f K (((byt t).getD i 0 / 16 : Nat) : Int) (((byt t).getD i 0 % 16 : Nat) : Int) bt124.1 bt129.1).bind fun t136 => if t136 = true then spec_ReadRecs.l0 K t (acc ++ [(⟨(((byt t).getD i 0 / 16 : Nat) : Int), (((byt t).getD i 0 % 16 : Nat) : Int), bt124.1, bt129.1⟩ : S34)]) bt129.2.1 bt129.2.2.1 bt129.2.2.2 else some ([], false)) (fun K => ?_) (ev_bind ea ?_)
        · simp only [spec_ReadRecs.j1]
          rw [if_pos trivial, if_pos (by omega), if_pos (by omega), wsucc (n := t.size) hi (by omega), eb, d1, d2]
          simp only [if_pos (show acc.length < 4398046511104 by omega)]
        · unfold recMay
          rcases A with ⟨h4, h5⟩ | ⟨h4, h5⟩
          · simp only [h4, Bool.false_eq_true, if_false, Bool.false_and]
            refine ev_bind (sVar_bad t _ hs) ?_
            simp only [if_true]; exact Ev.now _
          · simp only [h4, if_true, Bool.true_and]
            refine ev_bind ec ?_
            rcases C with ⟨h6, h7⟩ | ⟨h6, h7⟩
            · simp only [h6, Bool.false_eq_true, if_false, Bool.false_and, if_true]; exact Ev.now _
            · simp only [h6, if_true, Bool.true_and, Bool.false_eq_true, if_false]
              refine ev_bind (sRecOk_ev _ _ _ _) ?_
              show Ev (fun K => if recOk (recAt t i).f0 (recAt t i).f1 (recAt t i).f2 (recAt t i).f3 = true then spec_ReadRecs.l0 K t (acc ++ [recAt t i]) t (recEnd t i) false else some ([], false)) _
              by_cases h8 : recOk (recAt t i).f0 (recAt t i).f1 (recAt t i).f2 (recAt t i).f3 = true
              · simp only [if_pos h8]
                have h9 : recEnd t i = (((recEnd t i).toNat : Nat) : Int) := by unfold recEnd; omega
                rw [h9, Int.toNat_natCast]
                exact ih (recEnd t i).toNat (acc ++ [recAt t i]) (by unfold recEnd; omega) (by unfold recEnd; omega) (by simp only [List.length_append, List.length_cons, List.length_nil]; unfold recEnd; omega)
              · simp only [if_neg h8]; exact Ev.now _
      · rw [if_neg hi]
        refine Ev.step (f := fun K => spec_ReadRecs.j1 K t acc false t (i : Int) false) (fun K => by simp only [spec_ReadRecs.l0]; rw [if_neg (by omega)]) (ev_some fun K => ?_)
        simp only [spec_ReadRecs.j1]
        rfl
  exact main (t.size + 1) 0 [] (by omega) (by omega) (by simp)
end Go.Proofs.Ytcpgpchdplpfiaa.Pu

/- The bytes of a record; the program's and the reference's RecText tell them. -/
namespace Go.Proofs.Ytcpgpchdplpfiaa.Pu
set_option linter.unusedVariables false
set_option linter.unusedSimpArgs false
open Go.RowKit Go.Proofs.Ytcpgpchdplpfiaa.PR Go.Proofs.YtcpgpchdplpfiaaW.PrintWords

def recText (t v a c : Int) : ByteArray := (strOfNums [(16 * t + v) % 256] ++ strOfNums (varL a.toNat)) ++ strOfNums (varL c.toNat)
def recTextR (t v a c : Int) : ByteArray × Bool := if recOk t v a c = true then (recText t v a c, true) else (⟨#[]⟩, false)
theorem iRecText_ev (t v a c : Int) : Ev (fun k => impl_RecText.f k t v a c) (recTextR t v a c) := by
  unfold impl_RecText.f recTextR
  refine ev_bind (iRecOk_ev t v a c) ?_
  by_cases h : recOk t v a c = true
  · obtain ⟨h1, h2, h3, h4, h5, h6, h7, h8⟩ := recOk_range h
    have s1 := varL_len5 (n := a.toNat) (by omega)
    have s2 := varL_len5 (n := c.toNat) (by omega)
    simp only [if_pos h, Option.bind_some]
    refine ev_bind (varOf_ev h5 h6) ?_
    rw [w64 (x := 16 * t) (by omega) (by omega), w64 (x := 16 * t + v) (by omega) (by omega)]
    simp only [strOf_size, List.length_cons, List.length_nil, if_pos (show 0 + 1 + (varL a.toNat).length ≤ 9223372036854775807 by omega)]
    refine ev_bind (varOf_ev h7 h8) ?_
    simp only [strOf_size, if_pos (show 0 + 1 + (varL a.toNat).length + (varL c.toNat).length ≤ 9223372036854775807 by omega)]
    exact Ev.now _
  · simp only [if_neg h]
    exact Ev.now _
theorem sRecText_ev (t v a c : Int) : Ev (fun k => spec_RecText.f k t v a c) (recTextR t v a c) := by
  unfold spec_RecText.f recTextR spec_l06Byte.f
  refine ev_bind (sRecOk_ev t v a c) ?_
  by_cases h : recOk t v a c = true
  · obtain ⟨h1, h2, h3, h4, h5, h6, h7, h8⟩ := recOk_range h
    have s1 := varL_len5 (n := a.toNat) (by omega)
    have s2 := varL_len5 (n := c.toNat) (by omega)
    simp only [if_pos h, Option.bind_some]
    refine ev_bind (l01Var_ev h5 h6) ?_
    rw [w64 (x := 16 * t) (by omega) (by omega), w64 (x := 16 * t + v) (by omega) (by omega)]
    simp only [strOf_size, List.length_cons, List.length_nil, if_pos (show 0 + 1 + (varL a.toNat).length ≤ 9223372036854775807 by omega)]
    refine ev_bind (l01Var_ev h7 h8) ?_
    simp only [strOf_size, if_pos (show 0 + 1 + (varL a.toNat).length + (varL c.toNat).length ≤ 9223372036854775807 by omega)]
    exact Ev.now _
  · simp only [if_neg h]
    exact Ev.now _
end Go.Proofs.Ytcpgpchdplpfiaa.Pu

/- Records come back from their bytes; bytes that are records are the bytes of them. -/
namespace Go.Proofs.Ytcpgpchdplpfiaa.Pu
set_option linter.unusedVariables false
set_option linter.unusedSimpArgs false
open Go.RowKit Go.Proofs.Ytcpgpchdplpfiaa.PR Go.Proofs.YtcpgpchdplpfiaaW.PrintWords

def varN (n : Nat) : List Nat := (varL n).map Int.toNat
theorem varN_long {n : Nat} (h : n > 127) : varN n = (n % 128 + 128) :: varN (n / 128) := by
  unfold varN; rw [varL_long h]; rfl
theorem varN_short {n : Nat} (h : ¬ n > 127) : varN n = [n] := by
  unfold varN; rw [varL_short h]; rfl
theorem varN_len (n : Nat) : (varN n).length = (varL n).length := List.length_map _
/-- A number that was written is read. -/
theorem rv_var (m : Nat) : ∀ (d k n0 : Nat) (rest : List Nat), (varN m).length ≤ d → n0 + m * 128 ^ k ≤ 1000000000 → (k = 0 ∨ m ≠ 0) → rvL (varN m ++ rest) d k n0 = some (n0 + m * 128 ^ k, k + (varN m).length) := by
  induction m using Nat.strongRecOn with
  | _ m ih =>
    intro d k n0 rest hd hn h0
    by_cases hm : m > 127
    · rw [varN_long hm] at hd ⊢
      cases d with
      | zero => simp at hd
      | succ d =>
        simp only [List.length_cons] at hd
        rw [List.cons_append, rvL_cons, if_pos (by omega), show (m % 128 + 128) % 128 = m % 128 by omega]
        have e : m * 128 ^ k = m % 128 * 128 ^ k + m / 128 * 128 ^ (k + 1) := by
          have h1 : m = m % 128 + 128 * (m / 128) := by omega
          conv => lhs; rw [h1]
          rw [Nat.add_mul, Nat.pow_succ]
          congr 1
          rw [Nat.mul_comm 128, Nat.mul_assoc, Nat.mul_comm 128]
        rw [e] at hn
        rw [ih (m / 128) (by omega) d (k + 1) _ rest (by omega) (by omega) (.inr (by omega)), e]
        simp only [List.length_cons]
        congr 2 <;> omega
    · rw [varN_short hm] at hd ⊢
      cases d with
      | zero => simp at hd
      | succ d =>
        rw [List.cons_append, rvL_cons, if_neg (by omega), show m % 128 = m by omega, if_neg (by omega)]
        rfl
theorem read_var {t : ByteArray} {a n : Nat} {rest : List Nat} (h : (byt t).drop a = varN n ++ rest) (ha : a ≤ t.size) (hn : n ≤ 1000000000) : rvB t (a : Int) = ((n : Int), ((a + (varN n).length : Nat) : Int), true) := by
  unfold rvB
  rw [if_pos (by omega), Int.toNat_natCast, h, rv_var n 5 0 0 rest (by rw [varN_len]; exact (varL_len5 hn).1) (by simpa using hn) (.inl rfl)]
  show (((0 + n * 128 ^ 0 : Nat) : Int), (a : Int) + ((0 + (varN n).length : Nat) : Int), true) = _
  rw [show 0 + n * 128 ^ 0 = n by simp, show (a : Int) + ((0 + (varN n).length : Nat) : Int) = ((a + (varN n).length : Nat) : Int) by omega]
/-- What was read is what is written. -/
theorem rv_back : ∀ (l : List Nat) (d : Nat) (pre : List Nat) {m c : Nat}, rvL l d pre.length (valB pre) = some (m, c) → (∀ b ∈ pre, 128 ≤ b ∧ b < 256) → (∀ b ∈ l, b < 256) → varN m = pre ++ l.take (c - pre.length)
  | l, 0, pre, m, c, h, _, _ => by rw [rvL_zero] at h; cases h
  | [], d + 1, pre, m, c, h, _, _ => by rw [rvL_nil] at h; cases h
  | x :: r, d + 1, pre, m, c, h, hp, hl => by
    rw [rvL_cons, ← val_snoc] at h
    have hx := hl x List.mem_cons_self
    by_cases h1 : x ≥ 128
    · rw [if_pos h1] at h
      have hr := rvL_range _ _ _ _ h
      have h2 := rv_back r d (pre ++ [x]) (m := m) (c := c) (by rw [List.length_append]; exact h) (fun b hb => by
        rcases List.mem_append.1 hb with hb | hb
        · exact hp b hb
        · obtain rfl := List.mem_singleton.1 hb; exact ⟨h1, hx⟩) (fun b hb => hl b (List.mem_cons_of_mem _ hb))
      rw [h2, List.append_assoc, List.length_append, List.length_singleton]
      congr 1
      rw [show c - pre.length = (c - (pre.length + 1)) + 1 by omega, List.take_succ_cons]; rfl
    · rw [if_neg h1] at h
      by_cases h2 : (x = 0 ∧ pre.length > 0) ∨ valB (pre ++ [x]) > 1000000000
      · rw [if_pos h2] at h; cases h
      · rw [if_neg h2] at h
        injection h with h
        injection h with h3 h4
        subst h3; subst h4
        unfold varN
        rw [canon1 pre hp (by omega) (by
          cases pre with
          | nil => exact .inl rfl
          | cons b q => exact .inr fun h0 => h2 (.inl ⟨h0, by simp⟩)), toNat_map, Nat.add_sub_cancel_left, List.take_succ_cons, List.take_zero]
theorem var_back {t : ByteArray} {a : Nat} (ha : a ≤ t.size) (h : (rvB t (a : Int)).2.2 = true) : (byt t).drop a = varN (rvB t (a : Int)).1.toNat ++ (byt t).drop (rvB t (a : Int)).2.1.toNat := by
  unfold rvB at h ⊢
  rw [if_pos (by omega), Int.toNat_natCast] at h
  rw [if_pos (by omega), Int.toNat_natCast]
  cases e : rvL ((byt t).drop a) 5 0 0 with
  | none => rw [e] at h; cases h
  | some z =>
    obtain ⟨m, c⟩ := z
    have h2 := rv_back ((byt t).drop a) 5 [] e (fun b hb => by cases hb) (fun b hb => byt_lt t b (List.mem_of_mem_drop hb))
    show (byt t).drop a = varN ((m : Int)).toNat ++ (byt t).drop ((a : Int) + (c : Int)).toNat
    rw [Int.toNat_natCast, h2, show ((a : Int) + (c : Int)).toNat = a + c by omega, ← List.drop_drop]
    exact (List.take_append_drop c ((byt t).drop a)).symm

def recN (x : S34) : List Nat := (16 * x.f0 + x.f1).toNat :: (varN x.f2.toNat ++ varN x.f3.toNat)
def okR (x : S34) : Bool := recOk x.f0 x.f1 x.f2 x.f3
def recsN (l : List S34) : List Nat := (l.map recN).flatten
theorem byt_rec {x : S34} (h : okR x = true) : byt (recText x.f0 x.f1 x.f2 x.f3) = recN x := by
  obtain ⟨h1, h2, h3, h4, h5, h6, h7, h8⟩ := recOk_range h
  unfold recText recN varN
  rw [byt_app, byt_app, byt_str _ (varL_byte _), byt_str _ (varL_byte _), byt_str _ (fun y hy => by obtain rfl := List.mem_singleton.1 hy; omega), List.append_assoc]
  show ((16 * x.f0 + x.f1) % 256).toNat :: _ = _
  rw [show (16 * x.f0 + x.f1) % 256 = 16 * x.f0 + x.f1 by omega]; rfl
theorem recN_len (x : S34) : (recN x).length = 1 + (varN x.f2.toNat).length + (varN x.f3.toNat).length := by
  unfold recN; simp only [List.length_cons, List.length_append]; omega
theorem rec_read {t : ByteArray} {i : Nat} {x : S34} {rest : List Nat} (h : (byt t).drop i = recN x ++ rest) (hx : okR x = true) (hi : i < t.size) : recMay t i = true ∧ recAt t i = x ∧ recEnd t i = ((i + (recN x).length : Nat) : Int) := by
  obtain ⟨h1, h2, h3, h4, h5, h6, h7, h8⟩ := recOk_range hx
  have hl : ((byt t).drop i).length = t.size - i := by rw [List.length_drop, byt_len]
  have hl2 := congrArg List.length h
  rw [hl, List.length_append, recN_len] at hl2
  have hd := drop_byt hi
  rw [h] at hd
  unfold recN at hd
  rw [List.cons_append] at hd
  injection hd with h9 h10
  rw [List.append_assoc] at h10
  have ra := read_var (t := t) (a := i + 1) (n := x.f2.toNat) h10.symm (by omega) (by omega)
  have h11 : (byt t).drop (i + 1 + (varN x.f2.toNat).length) = varN x.f3.toNat ++ rest := by
    rw [← List.drop_drop, ← h10, List.drop_left]
  have rc := read_var (t := t) (a := i + 1 + (varN x.f2.toNat).length) (n := x.f3.toNat) h11 (by omega) (by omega)
  unfold recMay recAt recEnd
  rw [ra]
  simp only
  rw [rc]
  refine ⟨rfl, ?_, ?_⟩
  · rw [← h9]
    obtain ⟨t0, v0, a0, c0⟩ := x
    simp only at *
    congr 1 <;> omega
  · rw [recN_len]
    show ((_ : Nat) : Int) = ((_ : Nat) : Int)
    omega
theorem trip (t : ByteArray) : ∀ (L : List S34) (d i : Nat) (acc : List S34), (byt t).drop i = recsN L → (∀ x ∈ L, okR x = true) → t.size < i + d → i ≤ t.size → rrB t d i acc = (acc ++ L, true)
  | [], d, i, acc, h, _, hd, hi => by
    have h1 := congrArg List.length h
    rw [List.length_drop, byt_len] at h1
    have h2 : (recsN []).length = 0 := rfl
    rw [h2] at h1
    cases d with
    | zero => omega
    | succ d => unfold rrB; rw [if_neg (by omega), List.append_nil]
  | x :: L, d, i, acc, h, ho, hd, hi => by
    have hx := ho x List.mem_cons_self
    have e : recsN (x :: L) = recN x ++ recsN L := rfl
    rw [e] at h
    have hl := congrArg List.length h
    rw [List.length_drop, byt_len, List.length_append, recN_len] at hl
    obtain ⟨h1, h2, h3⟩ := rec_read h hx (by omega)
    cases d with
    | zero => omega
    | succ d =>
      unfold rrB
      rw [if_pos (by omega), h1, h2, Bool.true_and]
      have hx2 : recOk x.f0 x.f1 x.f2 x.f3 = true := hx
      rw [if_pos hx2, h3, Int.toNat_natCast, trip t L d (i + (recN x).length) (acc ++ [x]) (by rw [← List.drop_drop, h, List.drop_left]) (fun y hy => ho y (List.mem_cons_of_mem _ hy)) (by rw [recN_len]; omega) (by rw [recN_len]; omega), List.append_assoc]
      rfl
theorem back (t : ByteArray) : ∀ (d i : Nat) (acc : List S34), t.size < i + d → i ≤ t.size → (rrB t d i acc).2 = true → ∃ N, (rrB t d i acc).1 = acc ++ N ∧ (∀ x ∈ N, okR x = true) ∧ (byt t).drop i = recsN N
  | 0, i, acc, h1, h2, _ => by omega
  | d + 1, i, acc, h1, h2, h => by
    unfold rrB at h ⊢
    by_cases hi : i < t.size
    · rw [if_pos hi] at h ⊢
      by_cases hc : (recMay t i && recOk (recAt t i).f0 (recAt t i).f1 (recAt t i).f2 (recAt t i).f3) = true
      · rw [if_pos hc] at h ⊢
        rw [Bool.and_eq_true] at hc
        obtain ⟨hm, ho⟩ := hc
        unfold recMay at hm
        rw [Bool.and_eq_true] at hm
        have hx := byt_get_lt t i
        have A := rvB_range t ((i + 1 : Nat) : Int)
        have C := rvB_range t (rvB t ((i + 1 : Nat) : Int)).2.1
        rcases A with ⟨a1, _⟩ | ⟨a1, a2, a3, a4, a5, a6⟩
        · rw [a1] at hm; exact absurd hm.1 (by decide)
        rcases C with ⟨c1, _⟩ | ⟨c1, c2, c3, c4, c5, c6⟩
        · rw [c1] at hm; exact absurd hm.2 (by decide)
        have va := var_back (t := t) (a := i + 1) (by omega) hm.1
        have hn : (rvB t ((i + 1 : Nat) : Int)).2.1 = (((rvB t ((i + 1 : Nat) : Int)).2.1.toNat : Nat) : Int) := by omega
        have vc := var_back (t := t) (a := (rvB t ((i + 1 : Nat) : Int)).2.1.toNat) (by omega) (by rw [← hn]; exact hm.2)
        rw [← hn] at vc
        have e : (byt t).drop i = recN (recAt t i) ++ (byt t).drop (recEnd t i).toNat := by
          rw [drop_byt hi, va, vc]
          unfold recN recAt recEnd
          simp only [List.cons_append, List.append_assoc]
          congr 1
          omega
        obtain ⟨N, n1, n2, n3⟩ := back t d (recEnd t i).toNat (acc ++ [recAt t i]) (by unfold recEnd; omega) (by unfold recEnd; omega) h
        refine ⟨recAt t i :: N, by rw [n1, List.append_assoc]; rfl, fun y hy => ?_, by rw [e, n3]; rfl⟩
        rcases List.mem_cons.1 hy with rfl | hy
        · exact ho
        · exact n2 y hy
      · rw [if_neg hc] at h; cases h
    · rw [if_neg hi]
      exact ⟨[], (List.append_nil _).symm, fun x hx => (by cases hx), List.drop_eq_nil_of_le (by rw [byt_len]; omega)⟩
theorem rr_none (t : ByteArray) : ∀ (d i : Nat) (acc : List S34), (rrB t d i acc).2 = false → (rrB t d i acc).1 = []
  | 0, i, acc, h => by cases h
  | d + 1, i, acc, h => by
    unfold rrB at h ⊢
    by_cases hi : i < t.size
    · rw [if_pos hi] at h ⊢
      by_cases hc : (recMay t i && recOk (recAt t i).f0 (recAt t i).f1 (recAt t i).f2 (recAt t i).f3) = true
      · rw [if_pos hc] at h ⊢; exact rr_none t d _ _ h
      · rw [if_neg hc]
    · rw [if_neg hi] at h; cases h

/-- The bytes of records, one behind the other. -/
def recsT (acc : ByteArray) : List S34 → ByteArray
  | [] => acc
  | x :: l => recsT (acc ++ recText x.f0 x.f1 x.f2 x.f3) l
theorem byt_recs : ∀ (l : List S34) (acc : ByteArray), (∀ x ∈ l, okR x = true) → byt (recsT acc l) = byt acc ++ recsN l
  | [], acc, _ => (List.append_nil _).symm
  | x :: l, acc, h => by
    show byt (recsT (acc ++ recText x.f0 x.f1 x.f2 x.f3) l) = byt acc ++ (recN x ++ recsN l)
    rw [byt_recs l _ fun y hy => h y (List.mem_cons_of_mem _ hy), byt_app, byt_rec (h x List.mem_cons_self), List.append_assoc]
theorem rec_size {x : S34} (h : okR x = true) : (recText x.f0 x.f1 x.f2 x.f3).size ≤ 11 := by
  obtain ⟨h1, h2, h3, h4, h5, h6, h7, h8⟩ := recOk_range h
  rw [← byt_len, byt_rec h, recN_len, varN_len, varN_len]
  have s1 := varL_len5 (n := x.f2.toNat) (by omega)
  have s2 := varL_len5 (n := x.f3.toNat) (by omega)
  omega
theorem recsT_size : ∀ (l : List S34) (acc : ByteArray), (∀ x ∈ l, okR x = true) → (recsT acc l).size ≤ acc.size + 11 * l.length
  | [], acc, _ => Nat.le_refl _
  | x :: l, acc, h => by
    have h1 := recsT_size l (acc ++ recText x.f0 x.f1 x.f2 x.f3) fun y hy => h y (List.mem_cons_of_mem _ hy)
    have h2 := rec_size (h x List.mem_cons_self)
    rw [ByteArray.size_append] at h1
    show (recsT (acc ++ recText x.f0 x.f1 x.f2 x.f3) l).size ≤ _
    simp only [List.length_cons]
    omega
end Go.Proofs.Ytcpgpchdplpfiaa.Pu

/- The reference's draws: a byte, a number below a bound, some places. -/
namespace Go.Proofs.Ytcpgpchdplpfiaa.Pu
set_option linter.unusedVariables false
set_option linter.unusedSimpArgs false
open Go.RowKit Go.Proofs.Ytcpgpchdplpfiaa.PR Go.Proofs.YtcpgpchdplpfiaaW.PrintWords

theorem and255 (x : Int) : 0 ≤ Go.bits .and .i64 x 255 ∧ Go.bits .and .i64 x 255 ≤ 255 := by
  have h : (BitVec.ofInt 64 x &&& BitVec.ofInt 64 255).toNat ≤ 255 := by
    rw [BitVec.toNat_and]; exact Nat.le_trans Nat.and_le_right (by decide)
  have e : Go.bits .and .i64 x 255 = Go.IntKind.i64.wrap ((BitVec.ofInt 64 x &&& BitVec.ofInt 64 255).toNat : Int) := rfl
  rw [e, Go.IntKind.wrap_i64]
  omega
/-- A draw's state: the place lies in the code. -/
theorem byte_eq (b : List Int) (i h : Int) (h0 : 0 ≤ i) (h1 : i ≤ b.length) (hb : b.length ≤ 9223372036854775807) : ∃ v i' h', spec_l01Byte.f b i h = some (v, i', h') ∧ (0 ≤ v ∧ v ≤ 255) ∧ 0 ≤ i' ∧ i' ≤ b.length := by
  unfold spec_l01Byte.f
  by_cases hi : i < (b.length : Int)
  · rw [if_pos hi, if_pos h0, w64 (x := i + 1) (by omega) (by omega)]
    exact ⟨_, _, _, rfl, and255 _, by omega, by omega⟩
  · rw [if_neg hi]
    exact ⟨_, _, _, rfl, and255 _, by omega, by omega⟩
theorem below_eq (b : List Int) (i h n : Int) (h0 : 0 ≤ i) (h1 : i ≤ b.length) (hb : b.length ≤ 9223372036854775807) (hn : 0 < n) : ∃ v i' h', spec_l01Below.f b i h n = some (v, i', h') ∧ (0 ≤ v ∧ v < n) ∧ 0 ≤ i' ∧ i' ≤ b.length := by
  unfold spec_l01Below.f
  rw [if_neg (by omega)]
  obtain ⟨v, i1, g1, e1, ⟨v0, v1⟩, a1, b1⟩ := byte_eq b i h h0 h1 hb
  rw [e1]
  by_cases hs : n ≤ 256
  · rw [if_pos hs, Option.bind_some, if_neg (by omega)]
    exact ⟨_, _, _, rfl, ⟨Int.tmod_nonneg _ v0, Int.tmod_lt_of_pos _ hn⟩, a1, b1⟩
  · rw [if_neg hs, Option.bind_some]
    obtain ⟨y, i2, g2, e2, ⟨y0, y1⟩, a2, b2⟩ := byte_eq b i1 g1 a1 b1 hb
    obtain ⟨z, i3, g3, e3, ⟨z0, z1⟩, a3, b3⟩ := byte_eq b i2 g2 a2 b2 hb
    obtain ⟨u, i4, g4, e4, ⟨u0, u1⟩, a4, b4⟩ := byte_eq b i3 g3 a3 b3 hb
    simp only [e2, e3, e4, Option.bind_some]
    rw [if_neg (by omega), w64 (x := v * 16777216) (by omega) (by omega), w64 (x := y * 65536) (by omega) (by omega), w64 (x := v * 16777216 + y * 65536) (by omega) (by omega), w64 (x := z * 256) (by omega) (by omega), w64 (x := v * 16777216 + y * 65536 + z * 256) (by omega) (by omega), w64 (x := v * 16777216 + y * 65536 + z * 256 + u) (by omega) (by omega)]
    exact ⟨_, _, _, rfl, ⟨Int.tmod_nonneg _ (by omega), Int.tmod_lt_of_pos _ hn⟩, a4, b4⟩
theorem new_ev (b : List Int) (hb : b.length ≤ 9223372036854775807) : ∃ h, Ev (fun k => spec_l01New.f k b) (b, 0, h) := by
  unfold spec_l01New.f
  have main : ∀ (d i : Nat) (h : Int), i + d = b.length → ∃ g, Ev (fun k => spec_l01New.l0 k b h (i : Int)) (b, 0, g) := by
    intro d
    induction d with
    | zero => intro i h hi; exact ⟨h, ev_some fun k => by simp only [spec_l01New.l0]; rw [if_neg (by omega)]⟩
    | succ d ih =>
      intro i h hi
      by_cases hf : (i : Int) < 4000
      · obtain ⟨g, hg⟩ := ih (i + 1) (Go.bits .and .i64 (wrap64 ((wrap64 ((wrap64 (h * 131)) + (wrap64 (rd b (i : Int))))) + 7)) 1073741823) (by omega)
        refine ⟨g, Ev.step (fun k => ?_) hg⟩
        simp only [spec_l01New.l0]
        rw [if_pos (by omega), if_pos hf, if_pos (by omega), wsucc (n := b.length) (by omega) hb]
      · exact ⟨h, ev_some fun k => by simp only [spec_l01New.l0]; rw [if_pos (by omega), if_neg hf]⟩
  exact main b.length 0 _ (by omega)
end Go.Proofs.Ytcpgpchdplpfiaa.Pu

/- The reference's draws of records, of their bytes, and of bytes that are spoilt. -/
namespace Go.Proofs.Ytcpgpchdplpfiaa.Pu
set_option linter.unusedVariables false
set_option linter.unusedSimpArgs false
open Go.RowKit Go.Proofs.Ytcpgpchdplpfiaa.PR Go.Proofs.YtcpgpchdplpfiaaW.PrintWords

theorem pick_eq (b : List Int) (i h : Int) (l : List Int) (h0 : 0 ≤ i) (h1 : i ≤ b.length) (hb : b.length ≤ 9223372036854775807) (hl : 1 ≤ l.length) : ∃ v i' h', spec_l01PickInt.f b i h l = some (v, i', h') ∧ v ∈ l ∧ 0 ≤ i' ∧ i' ≤ b.length := by
  obtain ⟨v, j, g, e, ⟨v0, v1⟩, a1, b1⟩ := below_eq b i h (l.length : Int) h0 h1 hb (by omega)
  unfold spec_l01PickInt.f
  rw [e, Option.bind_some, if_pos v0, if_pos v1]
  exact ⟨_, _, _, rfl, getD_mem' (by omega), a1, b1⟩
theorem once_eq (b : List Int) (i h n : Int) (h0 : 0 ≤ i) (h1 : i ≤ b.length) (hb : b.length ≤ 9223372036854775807) (hn : 0 < n) : ∃ v i' h', spec_l01Once.f b i h n = some (v, i', h') ∧ 0 ≤ i' ∧ i' ≤ b.length := by
  obtain ⟨v, j, g, e, _, a1, b1⟩ := below_eq b i h n h0 h1 hb hn
  unfold spec_l01Once.f
  rw [e, Option.bind_some]
  exact ⟨_, _, _, rfl, a1, b1⟩
theorem rec_draw (b : List Int) (i h : Int) (h0 : 0 ≤ i) (h1 : i ≤ b.length) (hb : b.length ≤ 9223372036854775807) : ∃ t v a c i' h', spec_l09Rec.f b i h = some (t, v, a, c, i', h') ∧ recOk t v a c = true ∧ 0 ≤ i' ∧ i' ≤ b.length := by
  unfold spec_l09Rec.f
  obtain ⟨t, i1, g1, e1, t1, a1, b1⟩ := pick_eq b i h [2, 2, 3, 4, 4, 4, 4, 4, 5] h0 h1 hb (by decide)
  obtain ⟨v, i2, g2, e2, ⟨v0, v1⟩, a2, b2⟩ := below_eq b i1 g1 3 a1 b1 hb (by omega)
  rw [e1, Option.bind_some]
  simp only
  rw [e2, Option.bind_some]
  simp only
  have ht : t = 2 ∨ t = 3 ∨ t = 4 ∨ t = 5 := by simp at t1; omega
  rw [w64 (x := 1 + v) (by omega) (by omega)]
  by_cases k2 : t = 2
  · obtain ⟨x, i3, g3, e3, x1, a3, b3⟩ := pick_eq b i2 g2 [0, 0, 1, 2] a2 b2 hb (by decide)
    have hx : x = 0 ∨ x = 1 ∨ x = 2 := by simp at x1; omega
    rw [if_pos k2, e3]
    exact ⟨_, _, _, _, _, _, rfl, by unfold recOk; rw [decide_eq_true_eq]; omega, a3, b3⟩
  · rw [if_neg k2]
    by_cases k4 : t = 4
    · obtain ⟨x, i3, g3, e3, ⟨x0, x1⟩, a3, b3⟩ := below_eq b i2 g2 16 a2 b2 hb (by omega)
      obtain ⟨y, i4, g4, e4, ⟨y0, y1⟩, a4, b4⟩ := below_eq b i3 g3 9 a3 b3 hb (by omega)
      rw [if_pos k4, e3, Option.bind_some]
      simp only
      rw [e4, Option.bind_some]
      simp only
      rw [w64 (x := 1 + y) (by omega) (by omega)]
      exact ⟨_, _, _, _, _, _, rfl, by unfold recOk; rw [decide_eq_true_eq]; omega, a4, b4⟩
    · rw [if_neg k4]
      by_cases k5 : t = 5
      · obtain ⟨x, i3, g3, e3, ⟨x0, x1⟩, a3, b3⟩ := below_eq b i2 g2 16 a2 b2 hb (by omega)
        rw [if_pos k5, e3]
        exact ⟨_, _, _, _, _, _, rfl, by unfold recOk; rw [decide_eq_true_eq]; omega, a3, b3⟩
      · rw [if_neg k5]
        exact ⟨_, _, _, _, _, _, rfl, by unfold recOk; rw [decide_eq_true_eq]; omega, a2, b2⟩
theorem any_draw (b : List Int) (i h : Int) (h0 : 0 ≤ i) (h1 : i ≤ b.length) (hb : b.length ≤ 9223372036854775807) : ∃ z, spec_l09Any.f b i h = some z := by
  unfold spec_l09Any.f
  obtain ⟨t, v, a, c, i1, g1, e1, _, a1, b1⟩ := rec_draw b i h h0 h1 hb
  obtain ⟨x, i2, g2, e2, _, a2, b2⟩ := below_eq b i1 g1 12 a1 b1 hb (by omega)
  rw [e1, Option.bind_some]
  simp only
  rw [e2, Option.bind_some]
  simp only
  obtain ⟨y, i3, g3, e3, _⟩ := below_eq b i2 g2 7 a2 b2 hb (by omega)
  obtain ⟨y4, i4, g4, e4, _⟩ := pick_eq b i2 g2 [0, 9, 10, 16] a2 b2 hb (by decide)
  obtain ⟨y5, i5, g5, e5, _⟩ := pick_eq b i2 g2 [-1, 15, 16, 1000000000, 1000000001] a2 b2 hb (by decide)
  obtain ⟨y6, i6, g6, e6, _⟩ := pick_eq b i2 g2 [-1, 0, 1, 1000000001] a2 b2 hb (by decide)
  rw [e3, e4, e5, e6]
  simp only [Option.bind_some]
  repeat' split
  all_goals exact ⟨_, rfl⟩
theorem recs_draw (b : List Int) (i h : Int) (h0 : 0 ≤ i) (h1 : i ≤ b.length) (hb : b.length ≤ 9223372036854775807) : ∃ L i' h', Ev (fun k => spec_l09Recs.f k b i h) (L, i', h') ∧ (∀ x ∈ L, okR x = true) ∧ L.length ≤ 8 ∧ 0 ≤ i' ∧ i' ≤ b.length := by
  unfold spec_l09Recs.f
  have main : ∀ (d m : Nat) (acc : List S34) (j g : Int), m + d = 8 → acc.length = m → (∀ x ∈ acc, okR x = true) → 0 ≤ j → j ≤ b.length → ∃ L i' h', Ev (fun k => spec_l09Recs.l0 k acc (m : Int) b j g) (L, i', h') ∧ (∀ x ∈ L, okR x = true) ∧ L.length ≤ 8 ∧ 0 ≤ i' ∧ i' ≤ b.length := by
    intro d
    induction d with
    | zero =>
      intro m acc j g hm hl ha hj0 hj1
      obtain ⟨v, j2, g2, e2, ⟨v0, v1⟩, a2, b2⟩ := below_eq b j g 9 hj0 hj1 hb (by omega)
      refine ⟨acc, j2, g2, ev_some fun k => ?_, ha, by omega, a2, b2⟩
      simp only [spec_l09Recs.l0, e2, Option.bind_some]
      rw [if_neg (by omega)]
    | succ d ih =>
      intro m acc j g hm hl ha hj0 hj1
      obtain ⟨v, j2, g2, e2, ⟨v0, v1⟩, a2, b2⟩ := below_eq b j g 9 hj0 hj1 hb (by omega)
      by_cases hv : (m : Int) < v
      · obtain ⟨t, x, a, c, j3, g3, e3, ok, a3, b3⟩ := rec_draw b j2 g2 a2 b2 hb
        obtain ⟨L, i', h', l1, l2, l3, l4, l5⟩ := ih (m + 1) (acc ++ [⟨t, x, a, c⟩]) j3 g3 (by omega) (by simp; omega) (fun y hy => by
          rcases List.mem_append.1 hy with hy | hy
          · exact ha y hy
          · obtain rfl := List.mem_singleton.1 hy; exact ok) a3 b3
        refine ⟨L, i', h', Ev.step (fun k => ?_) l1, l2, l3, l4, l5⟩
        simp only [spec_l09Recs.l0, e2, e3, Option.bind_some]
        rw [if_pos hv, if_pos (by omega), wsucc (n := 8) (by omega) (by omega)]
      · refine ⟨acc, j2, g2, ev_some fun k => ?_, ha, by omega, a2, b2⟩
        simp only [spec_l09Recs.l0, e2, Option.bind_some]
        rw [if_neg hv]
  exact main 8 0 [] i h rfl rfl (fun x hx => by cases hx) h0 h1
theorem text_draw (b : List Int) (i h : Int) (n : Nat) (h0 : 0 ≤ i) (h1 : i ≤ b.length) (hb : b.length ≤ 9223372036854775807) (hn : n ≤ 5000) : ∃ s i' h', Ev (fun k => spec_l01Text.f k b i h (n : Int)) (s, i', h') ∧ s.size = n ∧ 0 ≤ i' ∧ i' ≤ b.length := by
  unfold spec_l01Text.f
  simp only [if_neg (show ¬ (n : Int) > 5000 by omega)]
  have main : ∀ (d m : Nat) (acc : List Int) (j g : Int), m + d = n → acc.length = m → 0 ≤ j → j ≤ b.length → ∃ s i' h', Ev (fun k => spec_l01Text.l0 k (n : Int) acc (m : Int) b j g) (s, i', h') ∧ s.size = n ∧ 0 ≤ i' ∧ i' ≤ b.length := by
    intro d
    induction d with
    | zero =>
      intro m acc j g hm hl hj0 hj1
      exact ⟨strOfNums acc, j, g, ev_some fun k => by simp only [spec_l01Text.l0]; rw [if_neg (by omega)], by rw [strOf_size]; omega, hj0, hj1⟩
    | succ d ih =>
      intro m acc j g hm hl hj0 hj1
      obtain ⟨v, j2, g2, e2, _, a2, b2⟩ := byte_eq b j g hj0 hj1 hb
      obtain ⟨s, i', h', l1, l2, l3, l4⟩ := ih (m + 1) (acc ++ [v % 256]) j2 g2 (by omega) (by simp; omega) a2 b2
      refine ⟨s, i', h', Ev.step (fun k => ?_) l1, l2, l3, l4⟩
      simp only [spec_l01Text.l0, e2, Option.bind_some]
      rw [if_pos (by omega), if_pos (by omega), wsucc (n := n) (by omega) (by omega)]
  obtain ⟨s, i', h', l1, l2, l3, l4⟩ := main n 0 [] i h (by omega) rfl h0 h1
  exact ⟨s, i', h', Ev.step (fun k => by simp only [spec_l01Text.j0]; rfl) l1, l2, l3, l4⟩
theorem spoil_draw (b : List Int) (i h : Int) (s : ByteArray) (h0 : 0 ≤ i) (h1 : i ≤ b.length) (hb : b.length ≤ 9223372036854775807) (hs : s.size ≤ 1000) : ∃ z, Ev (fun k => spec_l02Spoilt.f k b i h s) z ∧ z.1.size ≤ 1001 := by
  unfold spec_l02Spoilt.f
  obtain ⟨v, i1, g1, e1, ⟨v0, v1⟩, a1, b1⟩ := below_eq b i h 12 h0 h1 hb (by omega)
  rw [e1]
  simp only [Option.bind_some]
  by_cases k0 : v = 0
  · simp only [if_pos k0]
    obtain ⟨x, i2, g2, l1, l2, l3, l4⟩ := text_draw b i1 g1 1 a1 b1 hb (by decide)
    refine ⟨(s ++ x, i2, g2), ev_bind l1 ?_, ?_⟩
    · simp only [if_pos (show s.size + x.size ≤ 9223372036854775807 by omega)]; exact Ev.now _
    · show (s ++ x).size ≤ 1001
      rw [ByteArray.size_append]; omega
  · simp only [if_neg k0]
    by_cases k1 : v = 1
    · simp only [if_pos k1]
      rw [w64 (x := (s.size : Int) + 1) (by omega) (by omega)]
      obtain ⟨x, i2, g2, e2, ⟨x0, x1⟩, a2, b2⟩ := below_eq b i1 g1 ((s.size : Int) + 1) a1 b1 hb (by omega)
      rw [e2, Option.bind_some, if_pos x0, if_pos (by show x ≤ _; omega)]
      refine ⟨_, Ev.now _, ?_⟩
      show (s.extract 0 x.toNat).size ≤ 1001
      rw [ByteArray.size_extract]; omega
    · simp only [if_neg k1]
      have main : ∀ q : Bool, ∃ z, Ev (fun k => spec_l02Spoilt.j0 k s q b i1 g1) z ∧ z.1.size ≤ 1001 := by
        intro q
        by_cases hq : q = true
        · by_cases hp : (s.size : Int) > 0
          · obtain ⟨x, i2, g2, e2, ⟨x0, x1⟩, a2, b2⟩ := below_eq b i1 g1 (s.size : Int) a1 b1 hb (by omega)
            obtain ⟨y, i3, g3, l1, l2, l3, l4⟩ := text_draw b i2 g2 1 a2 b2 hb (by decide)
            have z1 : (s.extract 0 x.toNat).size = x.toNat := by rw [ByteArray.size_extract]; omega
            have z2 : (s.extract (x + 1).toNat s.size).size = s.size - (x + 1).toNat := by rw [ByteArray.size_extract]; omega
            refine ⟨(((s.extract 0 x.toNat) ++ y) ++ (s.extract (x + 1).toNat s.size), i3, g3), Ev.step (f := fun k => (spec_l01Text.f k b i2 g2 1).bind fun bt316 => if (s.extract 0 x.toNat).size + bt316.1.size ≤ 9223372036854775807 then (if (s.extract 0 x.toNat).size + bt316.1.size + (s.extract (x + 1).toNat s.size).size ≤ 9223372036854775807 then some (((s.extract 0 x.toNat) ++ bt316.1) ++ (s.extract (x + 1).toNat s.size), bt316.2.1, bt316.2.2) else none) else none) (fun k => ?_) (ev_bind l1 ?_), ?_⟩
            · simp only [spec_l02Spoilt.j0]
              rw [if_pos hq, if_pos hp, e2, Option.bind_some]
              simp only [if_pos x0, if_pos (show x ≤ (s.size : Int) by omega), w64 (x := x + 1) (by omega) (by omega), if_pos (show 0 ≤ x + 1 by omega), if_pos (show x + 1 ≤ (s.size : Int) by omega)]
            · simp only [z1, z2, l2, if_pos (show x.toNat + 1 ≤ 9223372036854775807 by omega), if_pos (show x.toNat + 1 + (s.size - (x + 1).toNat) ≤ 9223372036854775807 by omega)]
              exact Ev.now _
            · show (((s.extract 0 x.toNat) ++ y) ++ (s.extract (x + 1).toNat s.size)).size ≤ 1001
              rw [ByteArray.size_append, ByteArray.size_append, z1, z2]; omega
          · exact ⟨(s, i1, g1), ev_some fun k => by simp only [spec_l02Spoilt.j0]; rw [if_pos hq, if_neg hp], by show s.size ≤ _; omega⟩
        · exact ⟨(s, i1, g1), ev_some fun k => by simp only [spec_l02Spoilt.j0]; rw [if_neg hq], by show s.size ≤ _; omega⟩
      by_cases k2 : v = 2
      · simp only [if_pos k2]; exact main _
      · simp only [if_neg k2]; exact main _
theorem bytes_draw (L : List S34) (h : ∀ x ∈ L, okR x = true) (hl : L.length ≤ 1000) : Ev (fun k => spec_l09Bytes.f k L) (recsT ⟨#[]⟩ L) := by
  unfold spec_l09Bytes.f
  have main : ∀ (d i : Nat) (acc : ByteArray), i + d = L.length → acc.size ≤ 11 * i → Ev (fun k => spec_l09Bytes.l0 k L acc (i : Int)) (recsT acc (L.drop i)) := by
    intro d
    induction d with
    | zero =>
      intro i acc hi ha
      rw [List.drop_eq_nil_of_le (by omega)]
      exact ev_some fun k => by simp only [spec_l09Bytes.l0]; rw [if_neg (by omega)]; rfl
    | succ d ih =>
      intro i acc hi ha
      have hil : i < L.length := by omega
      have hx := h _ (getD_mem' (z := z34) hil)
      have hz := rec_size hx
      rw [List.drop_eq_getElem_cons hil, show L[i] = L.getD i z34 by rw [List.getD_eq_getElem?_getD, List.getElem?_eq_getElem hil]; rfl]
      generalize hX : L.getD i z34 = x at hx hz ⊢
      have hr : recTextR x.f0 x.f1 x.f2 x.f3 = (recText x.f0 x.f1 x.f2 x.f3, true) := if_pos hx
      have e := sRecText_ev x.f0 x.f1 x.f2 x.f3
      rw [hr] at e
      refine Ev.step (f := fun k => (spec_RecText.f k x.f0 x.f1 x.f2 x.f3).bind fun bt290 => if acc.size + bt290.1.size ≤ 9223372036854775807 then spec_l09Bytes.l0 k L (acc ++ bt290.1) ((i + 1 : Nat) : Int) else none) (fun k => ?_) (ev_bind e ?_)
      · simp only [spec_l09Bytes.l0]
        rw [if_pos (by omega), if_pos (by omega), show rd_T34 L (i : Int) = L.getD i z34 from rfl, hX, wsucc (n := L.length) hil (by omega)]
      · simp only [if_pos (show acc.size + (recText x.f0 x.f1 x.f2 x.f3).size ≤ 9223372036854775807 by omega)]
        exact ih (i + 1) _ (by omega) (by rw [ByteArray.size_append]; omega)
  exact main L.length 0 ⟨#[]⟩ (by omega) (by decide)
theorem readrecs_draw (b : List Int) (hb : b.length ≤ 9223372036854775807) : ∃ t, Ev (fun k => spec_DrawReadRecs.f k b) t ∧ t.size ≤ 1001 := by
  unfold spec_DrawReadRecs.f
  obtain ⟨g0, hnew⟩ := new_ev b hb
  obtain ⟨L, i1, g1, l1, l2, l3, a1, b1⟩ := recs_draw b 0 g0 (by omega) (by omega) hb
  obtain ⟨v, i2, g2, e2, a2, b2⟩ := once_eq b i1 g1 3 a1 b1 hb (by omega)
  have hz := recsT_size L ⟨#[]⟩ l2
  have hz0 : (⟨#[]⟩ : ByteArray).size = 0 := rfl
  obtain ⟨z, z1, z2⟩ := spoil_draw b i2 g2 (recsT ⟨#[]⟩ L) a2 b2 hb (by omega)
  cases v with
  | true =>
    refine ⟨z.1, ev_bind hnew (ev_bind l1 (ev_bind (bytes_draw L l2 (by omega)) ?_)), z2⟩
    simp only [e2, Option.bind_some, if_true]
    exact ev_bind z1 (Ev.now _)
  | false =>
    refine ⟨recsT ⟨#[]⟩ L, ev_bind hnew (ev_bind l1 (ev_bind (bytes_draw L l2 (by omega)) ?_)), by omega⟩
    simp only [e2, Option.bind_some, Bool.false_eq_true, if_false]
    exact Ev.now _
theorem records_draw (b : List Int) (hb : b.length ≤ 9223372036854775807) : ∃ L, Ev (fun k => spec_DrawRecords.f k b) L ∧ (∀ x ∈ L, okR x = true) ∧ L.length ≤ 8 := by
  unfold spec_DrawRecords.f
  obtain ⟨g0, hnew⟩ := new_ev b hb
  obtain ⟨L, i1, g1, l1, l2, l3, _⟩ := recs_draw b 0 g0 (by omega) (by omega) hb
  exact ⟨L, ev_bind hnew (ev_bind l1 (Ev.now _)), l2, l3⟩
theorem rectext_draw (b : List Int) (hb : b.length ≤ 9223372036854775807) : ∃ z, Ev (fun k => spec_DrawRecText.f k b) z := by
  unfold spec_DrawRecText.f
  obtain ⟨g0, hnew⟩ := new_ev b hb
  obtain ⟨z, e⟩ := any_draw b 0 g0 (by omega) (by omega) hb
  refine ⟨(z.1, z.2.1, z.2.2.1, z.2.2.2.1), ev_bind hnew ?_⟩
  simp only [e, Option.bind_some]
  exact Ev.now _
end Go.Proofs.Ytcpgpchdplpfiaa.Pu

/- FnRecords: drawn right records come back from their bytes; drawn bytes that are records are the bytes of them. -/
namespace Go.Proofs.Ytcpgpchdplpfiaa.Pure
set_option linter.unusedVariables false
set_option linter.unusedSimpArgs false
open Go.RowKit Go.Proofs.Ytcpgpchdplpfiaa.PR Go.Proofs.YtcpgpchdplpfiaaW.PrintWords Go.Proofs.Ytcpgpchdplpfiaa.Pu

theorem sameRecs_ev (l : List S34) (hn : l.length ≤ 9223372036854775807) : Ev (fun k => laws_sameRecs.f k l l) true := by
  unfold laws_sameRecs.f
  simp only [if_true]
  have main : ∀ (d i : Nat), i + d = l.length → Ev (fun k => laws_sameRecs.l0 k l l (i : Int)) true := by
    intro d
    induction d with
    | zero => intro i hi; exact ev_some fun k => by simp only [laws_sameRecs.l0]; rw [if_neg (by omega)]
    | succ d ih =>
      intro i hi
      refine Ev.step (fun k => ?_) (ih (i + 1) (by omega))
      simp only [laws_sameRecs.l0, beq_self_eq_true, Bool.not_true, Bool.or_false, Bool.false_eq_true, if_false]
      rw [if_pos (by omega), if_pos (by omega), if_pos (by omega), wsucc (n := l.length) (by omega) hn]
  exact main l.length 0 (by omega)
theorem FnRecords : laws_FnRecords.Pure := by
  intro l hl _ hx
  refine Ev.rounds (g := fun k => laws_FnRecords.f k l) ?_
  unfold maxLen at hl
  unfold laws_FnRecords.f laws_big.f
  refine ev_bind (Ev.now (decide ((l.length : Int) > 1048576))) ?_
  by_cases hbig : (l.length : Int) > 1048576
  · simp only [decide_eq_true hbig, if_true]; exact Ev.now _
  · simp only [decide_eq_false hbig, Bool.false_eq_true, if_false]
    obtain ⟨L, hL, okL, l8⟩ := records_draw l (by omega)
    refine ev_bind hL ?_
    obtain ⟨t, ht, t1⟩ := readrecs_draw l (by omega)
    obtain ⟨z, hz⟩ := rectext_draw l (by omega)
    have sz := recsT_size L ⟨#[]⟩ okL
    have sz0 : (⟨#[]⟩ : ByteArray).size = 0 := rfl
    have hs := iReadRecs_ev (recsT ⟨#[]⟩ L) (by omega)
    rw [trip (recsT ⟨#[]⟩ L) L ((recsT ⟨#[]⟩ L).size + 1) 0 [] (by rw [List.drop_zero, byt_recs L _ okL]; rfl) okL (by omega) (by omega), List.nil_append] at hs
    have hi := iReadRecs_ev t (by omega)
    have hsp := sReadRecs_ev t (by omega)
    have hbk := back t (t.size + 1) 0 [] (by omega) (by omega)
    have hno := rr_none t (t.size + 1) 0 []
    have hle := rrB_len t (t.size + 1) 0 []
    generalize rrB t (t.size + 1) 0 [] = R at hi hsp hbk hno hle
    obtain ⟨N, may⟩ := R
    simp only [List.nil_append, List.drop_zero, List.length_nil] at hbk hno hle
    -- what is read has right records, and is their bytes
    have okN : ∀ x ∈ N, okR x = true := by
      cases may with
      | true => obtain ⟨M, m1, m2, _⟩ := hbk rfl; rw [m1]; exact m2
      | false => rw [hno rfl]; intro x hx; cases hx
    have same : may = true → recsT ⟨#[]⟩ N = t := fun h => by
      obtain ⟨M, m1, m2, m3⟩ := hbk h
      refine byt_inj ?_
      rw [byt_recs N _ okN, m3, m1]; rfl
    have last : ∀ u : ByteArray, (may = true → u = t) → Ev (fun k => laws_FnRecords.l1 k l L L true t N may may u (N.length : Int)) true := by
      intro u hu
      refine Ev.step (f := fun k => (spec_DrawRecText.f k l).bind fun bt405 => (impl_RecText.f k bt405.1 bt405.2.1 bt405.2.2.1 bt405.2.2.2).bind fun bt410 => (laws_sameRecs.f k L L).bind fun t412 => if t412 = true then (if (may == may) = true then (if may = true then (if u.toList = t.toList then ((spec_RecOk.f k bt405.1 bt405.2.1 bt405.2.2.1 bt405.2.2.2).bind fun t413 => (some (bt410.2 == t413))) else (some false)) else ((spec_RecOk.f k bt405.1 bt405.2.1 bt405.2.2.1 bt405.2.2.2).bind fun t414 => (some (bt410.2 == t414)))) else (some false)) else (some false)) (fun k => by simp only [laws_FnRecords.l1]; rw [if_neg (by omega)]; simp only [if_true]) ?_
      have fin : Ev (fun k => (spec_RecOk.f k z.1 z.2.1 z.2.2.1 z.2.2.2).bind fun t413 => some ((recTextR z.1 z.2.1 z.2.2.1 z.2.2.2).2 == t413)) true := by
        refine ev_bind (sRecOk_ev _ _ _ _) (ev_const ?_)
        unfold recTextR
        by_cases h : recOk z.1 z.2.1 z.2.2.1 z.2.2.2 = true
        · rw [if_pos h, h]; rfl
        · rw [if_neg h, Bool.eq_false_iff.mpr h]; rfl
      refine ev_bind hz (ev_bind (iRecText_ev _ _ _ _) (ev_bind (sameRecs_ev L (by omega)) ?_))
      simp only [if_true, beq_self_eq_true]
      cases may with
      | true =>
        simp only [if_true, if_pos (show u.toList = t.toList by rw [hu rfl])]
        exact fin
      | false =>
        simp only [Bool.false_eq_true, if_false]
        exact fin
    have two : ∀ (d i : Nat) (acc : ByteArray), i + d = N.length → acc.size ≤ 11 * i → (may = true → recsT acc (N.drop i) = t) → Ev (fun k => laws_FnRecords.l1 k l L L true t N may may acc (i : Int)) true := by
      intro d
      induction d with
      | zero =>
        intro i acc hi2 _ hu
        obtain rfl : i = N.length := by omega
        rw [List.drop_eq_nil_of_le (Nat.le_refl _)] at hu
        exact last acc hu
      | succ d ih =>
        intro i acc hi2 ha hu
        have hil : i < N.length := by omega
        have hok := okN _ (getD_mem' (z := z34) hil)
        have hsz := rec_size hok
        rw [List.drop_eq_getElem_cons hil, show N[i] = N.getD i z34 by rw [List.getD_eq_getElem?_getD, List.getElem?_eq_getElem hil]; rfl] at hu
        generalize hX : N.getD i z34 = x at hok hsz hu
        have hr : recTextR x.f0 x.f1 x.f2 x.f3 = (recText x.f0 x.f1 x.f2 x.f3, true) := if_pos hok
        have e := iRecText_ev x.f0 x.f1 x.f2 x.f3
        rw [hr] at e
        refine Ev.step (f := fun k => (impl_RecText.f k x.f0 x.f1 x.f2 x.f3).bind fun bt403 => if acc.size + bt403.1.size ≤ 9223372036854775807 then laws_FnRecords.l1 k l L L true t N may may (acc ++ bt403.1) ((i + 1 : Nat) : Int) else none) (fun k => ?_) (ev_bind e ?_)
        · simp only [laws_FnRecords.l1]
          rw [if_pos (by omega), if_pos (by omega), show rd_T34 N (i : Int) = N.getD i z34 from rfl, hX, wsucc (n := N.length) hil (by omega)]
        · simp only [if_pos (show acc.size + (recText x.f0 x.f1 x.f2 x.f3).size ≤ 9223372036854775807 by omega)]
          exact ih (i + 1) _ (by omega) (by rw [ByteArray.size_append]; omega) hu
    have one : ∀ (d i : Nat) (acc : ByteArray), i + d = L.length → acc.size ≤ 11 * i → recsT acc (L.drop i) = recsT ⟨#[]⟩ L → Ev (fun k => laws_FnRecords.l0 k l L acc (i : Int)) true := by
      intro d
      induction d with
      | zero =>
        intro i acc hi2 _ hu
        obtain rfl : i = L.length := by omega
        rw [List.drop_eq_nil_of_le (Nat.le_refl _)] at hu
        rw [show acc = recsT ⟨#[]⟩ L from hu]
        refine Ev.step (f := fun k => (impl_ReadRecs.f k (recsT ⟨#[]⟩ L)).bind fun bt389 => (spec_DrawReadRecs.f k l).bind fun t393 => (impl_ReadRecs.f k t393).bind fun bt394 => (spec_ReadRecs.f k t393).bind fun bt398 => laws_FnRecords.l1 k l L bt389.1 bt389.2 t393 bt394.1 bt394.2 bt398.2 (⟨#[]⟩ : ByteArray) 0) (fun k => by simp only [laws_FnRecords.l0]; rw [if_neg (by omega)]) (ev_bind hs (ev_bind ht (ev_bind hi (ev_bind hsp ?_))))
        exact two N.length 0 ⟨#[]⟩ (by omega) (by decide) (fun h => same h)
      | succ d ih =>
        intro i acc hi2 ha hu
        have hil : i < L.length := by omega
        have hok := okL _ (getD_mem' (z := z34) hil)
        have hsz := rec_size hok
        rw [List.drop_eq_getElem_cons hil, show L[i] = L.getD i z34 by rw [List.getD_eq_getElem?_getD, List.getElem?_eq_getElem hil]; rfl] at hu
        generalize hX : L.getD i z34 = x at hok hsz hu
        have hr : recTextR x.f0 x.f1 x.f2 x.f3 = (recText x.f0 x.f1 x.f2 x.f3, true) := if_pos hok
        have hro : recOk x.f0 x.f1 x.f2 x.f3 = true := hok
        have e := iRecText_ev x.f0 x.f1 x.f2 x.f3
        have e2 := iRecOk_ev x.f0 x.f1 x.f2 x.f3
        rw [hr] at e
        rw [hro] at e2
        refine Ev.step (f := fun k => (impl_RecText.f k x.f0 x.f1 x.f2 x.f3).bind fun bt385 => if bt385.2 = true then ((impl_RecOk.f k x.f0 x.f1 x.f2 x.f3).bind fun t388 => if t388 = true then (if acc.size + bt385.1.size ≤ 9223372036854775807 then laws_FnRecords.l0 k l L (acc ++ bt385.1) ((i + 1 : Nat) : Int) else none) else some false) else some false) (fun k => ?_) (ev_bind e ?_)
        · simp only [laws_FnRecords.l0]
          rw [if_pos (by omega), if_pos (by omega), show rd_T34 L (i : Int) = L.getD i z34 from rfl, hX, wsucc (n := L.length) hil (by omega)]
        · simp only [if_true]
          refine ev_bind e2 ?_
          simp only [if_true, if_pos (show acc.size + (recText x.f0 x.f1 x.f2 x.f3).size ≤ 9223372036854775807 by omega)]
          exact ih (i + 1) _ (by omega) (by rw [ByteArray.size_append]; omega) hu
    exact one L.length 0 ⟨#[]⟩ (by omega) (by decide) rfl
end Go.Proofs.Ytcpgpchdplpfiaa.Pure

/- Functions of the translation as plain Lean functions, and for each that its call comes to just what its Lean function answers; its conditions stand in each theorem. Written by a program of this session. -/
namespace Go.Proofs.Ytcpgpchdplpfiaa.fnRecords
open Go.ChangeShapes Go.WideShapes Go.ChangeAt Go.RowKit
open Go.ChangeMaps (open_string shut_string)
set_option linter.unusedVariables false
theorem own : ownKnob Try.prog.godebug = none := by kernel_rfl
theorem laidOut : laidOutB Try.prog = true := by kernel_rfl
def IsRow (k : IntKind) (w : World) (a : Option Addr) (len cap : Nat) (zs : List Int) : Prop :=
  (a = none ∧ len = 0 ∧ cap = 0 ∧ zs = []) ∨
  ∃ x, a = some x ∧ len ≤ cap ∧ cap ≤ maxLen ∧ zs.length = cap ∧ (∀ i, i < zs.length → w.cell? (x.add i) = some (.int k (zs.getD i 0))) ∧ ∀ n ∈ zs, (Lit.int k n).wf = true
set_option maxRecDepth 100000 in
theorem lifted (os : Os) (started : os.Started) (H : Type) (enc : TypeId × Value → H) :
    ReturnsInHanded {} Try.checked os 4 .any (Rows.fnRecordsSpec.pre6 enc Try.prog Try.f4 Rows.fnRecordsRow.domain false) (Rows.fnRecordsSpec.post enc Try.prog Try.f4 false true false false) := by
  refine returnsInHanded_of_change_sized (C := Try.checked) own started (by kernel_rfl) Try.func4
    (ChangeSpec.witness6 (enc := enc) (C := Try.checked) false ⟨#[], #[.slice none 0 0], []⟩ 8 (by kernel_rfl) (by kernel_rfl) (by kernel_rfl) (by kernel_rfl)) ?_
  intro W base args ds gs before hval0 hW hcnd hsz0 _
  have hsz : (DataW.weightsEach Try.prog (Try.f4.params.toList ++ Rows.fnRecordsSpec.plain.varTypes Try.prog) (ds ++ gs)).all (· ≤ reachBytes) = true := hsz0
  have hval : ∀ (j : Nat) t v, Try.f4.params[j]? = some t → args[j]? = some v → Value.okWide Try.prog W .any base t v := hval0
  have hW' := hW
  obtain ⟨p, q, hA0, hV, rfl, hfz, hnd⟩ := hW
  have hA : DataW.TrodAll enc Try.prog W 0 (fun _ => true) true Try.f4.params.toList args.toList ds p := hA0
  rw [Try.params4] at hA hval hsz
  obtain ⟨v0, vs0, d0, ds0, p0, q0, hargs, rfl, rfl, h0, r0⟩ := trodAll_cons hA
  obtain ⟨rfl, rfl, rfl⟩ := trodAll_nil r0
  obtain rfl : args = #[v0] := by cases args; simp_all
  obtain ⟨rfl, rfl⟩ := trodVars_none hV
  obtain ⟨a0, len0, cap0, rfl⟩ := okWide_slice Try.underlying28 (hval 0 28 v0 rfl rfl)
  have k0 := h0
  have lt0 : ∀ x ∈ p0, x.block < W.heap.size := by obtain ⟨m, hm⟩ := k0; exact DataW.trod_lt m _ _ _ hm
  obtain ⟨z0, w0⟩ : ∃ zs, IsRow .u8 W a0 len0 cap0 zs := by
    obtain ⟨fuel, hf⟩ := h0
    rcases open_ints Try.underlying28 Try.underlying5 (by kernel_rfl) hf with ⟨hcs, _⟩ | ⟨x, l, c, zs, hcs, _, hl, hm, hz, _, hcell, hwz⟩
    · simp [Value.cells] at hcs
      obtain ⟨rfl, rfl, rfl⟩ := hcs
      exact ⟨[], .inl ⟨rfl, rfl, rfl, rfl⟩⟩
    · simp [Value.cells] at hcs
      obtain ⟨rfl, rfl, rfl⟩ := hcs
      exact ⟨zs, .inr ⟨_, rfl, hl, hm, by simpa using hz, hcell, hwz⟩⟩
  have y0 : len0 * 1 ≤ 140737488351232 := Go.Proofs.YtcpgpchdplpfiaaW.PrintWords.sized_ints hsz (j := 0) (t := 28) rfl rfl Try.underlying28 Try.underlying5 (by kernel_rfl) (by kernel_rfl) h0
  clear hA0 hval0 hsz0 hsz
  refine (PR.laws_FnRecords.walk Pure.FnRecords a0 len0 cap0 z0 W w0 y0).mono fun e W' ⟨he, bel⟩ => ?_
  subst he
  exact ⟨_, rfl, _, _, _, [], _, [], hW', trodAll_mk1 (shut_bool Try.underlying4 _), (trodAll_cons_mk (Below.trod laidOut (by kernel_rfl) (of_decide_eq_true (by kernel_rfl)) k0 bel lt0) trodAll_mk0), rfl, bel.frame _, fun h => by cases h⟩
theorem over : Rows.fnRecordsRow.holds Try.pinned (OpenSpec.ofChange Rows.fnRecordsSpec) :=
  OpenClaim.holds_of_wide 4 Try.f4 rfl rfl rfl rfl rfl rfl rfl ⟨rfl, rfl, rfl, rfl, rfl⟩ rfl rfl rfl rfl rfl (by kernel_rfl) Try.func4 (by kernel_rfl)
    (of_decide_eq_true (by kernel_rfl)) (by unfold Func.isWrapper; first | (rw [if_pos (by decide +kernel)]; kernel_rfl) | (rw [if_neg (by decide +kernel)]; exact ⟨rfl, rfl⟩))
    (fun os started H enc _ => lifted os started H enc)
theorem proved : Rows.FnRecordsSaid := over
#print axioms proved
end Go.Proofs.Ytcpgpchdplpfiaa.fnRecords
namespace Go.Proofs.Ytcpgpchdplpfiaa
/-- The row, under a short name, for the claim. -/
theorem fnRecords_holds : Rows.FnRecordsSaid := fnRecords.proved
end Go.Proofs.Ytcpgpchdplpfiaa
