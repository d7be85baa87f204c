/- FnTwoTx: functions of the translation as Lean functions with what their calls come to, plain lemmas on them, and, at the end, the row. Parts of one proof, merged by a program of this session; each part's own sentence stands at its head. -/
import Derived.Test.YtodokejcmbjpbaaMFnTwoTxc
set_option linter.unusedSimpArgs false
set_option linter.unusedVariables false
/- Plain facts on rounds, lists and whole numbers, for the pure statements. -/
namespace Go.Proofs.Ytodokejcmbjpbaa.Pu
open Go.RowKit Go.Proofs.YtodokejcmbjpbaaW.PrintWords
theorem w64 {x : Int} (h1 : -9223372036854775808 ≤ x) (h2 : x ≤ 9223372036854775807) : wrap64 x = x := by
  unfold wrap64; omega
theorem wsucc {i n : Nat} (h : i < n) (hn : n ≤ 9223372036854775807) : wrap64 ((i : Int) + 1) = ((i + 1 : Nat) : Int) := by
  rw [w64 (by omega) (by omega)]; rfl
theorem wf_i64 {n : Int} (h : (Lit.int .i64 n).wf = true) : -9223372036854775808 ≤ n ∧ n ≤ 9223372036854775807 := by
  simp only [Lit.wf, Bool.and_eq_true, decide_eq_true_eq] at h
  have h1 : IntKind.min .i64 = -9223372036854775808 := by decide
  have h2 : IntKind.max .i64 = 9223372036854775807 := by decide
  omega

/-- Rounds: what is told, a step on. -/
theorem ev_some {α : Type} {g : Nat → Option α} {r : α} (h : ∀ k, g (k + 1) = some r) : Ev g r := Ev.step h (Ev.now r)
theorem ev_const {α : Type} {o : Option α} {r : α} (h : o = some r) : Ev (fun _ => o) r := ⟨0, fun _ _ => h⟩
theorem ev_bind {α β : Type} {g : Nat → Option α} {f : Nat → α → Option β} {a : α} {r : β} (h : Ev g a) (k : Ev (fun n => f n a) r) : Ev (fun n => (g n).bind (f n)) r := Ev.bind h k
theorem ev_uniq {α : Type} {g : Nat → Option α} {a b : α} (h : Ev g a) (k : Ev g b) : a = b := by
  obtain ⟨K, hK⟩ := h
  obtain ⟨M, hM⟩ := k
  have h1 := hK (max K M) (Nat.le_max_left _ _)
  rw [hM (max K M) (Nat.le_max_right _ _)] at h1
  injection h1 with h1
  exact h1.symm
theorem ev_ext {α : Type} {g f : Nat → Option α} {r : α} (h : ∀ k, g k = f k) (k : Ev f r) : Ev g r := Ev.congr h k

/-- A row that is made and filled, place by place. -/
theorem ev_fill {β : Type} {L : Nat → List β → Int → Option (List β)} {E : Nat → Int → Option β} {n : Nat} {e : Nat → β} (hn : n ≤ 9223372036854775807)
    (hs : ∀ k xs i, L (k + 1) xs i = if i < (n : Int) then (if 0 ≤ i then ((E k i).bind fun b => if i < (xs.length : Int) then L k (xs.set i.toNat b) (wrap64 (i + 1)) else none) else none) else some xs)
    (hE : ∀ i, i < n → Ev (fun k => E k (i : Int)) (e i)) :
    ∀ (d i : Nat) (xs : List β), xs.length = n → i + d = n → Ev (fun k => L k xs (i : Int)) (xs.take i ++ (List.range' i d).map e) := by
  intro d
  induction d with
  | zero =>
    intro i xs hl hi
    refine ev_some fun k => ?_
    rw [hs, if_neg (by omega)]
    simp [List.take_of_length_le (show xs.length ≤ i by omega)]
  | succ d ih =>
    intro i xs hl hi
    refine Ev.step (f := fun k => (E k (i : Int)).bind fun b => L k (xs.set i b) ((i + 1 : Nat) : Int)) (fun k => ?_) ?_
    · rw [hs, if_pos (by omega), if_pos (by omega), wsucc (n := n) (by omega) hn]
      congr 1
      funext b
      rw [if_pos (by omega)]
      rfl
    · refine ev_bind (hE i (by omega)) ?_
      have h := ih (i + 1) (xs.set i (e i)) (by rw [List.length_set]; exact hl) (by omega)
      have e1 : (xs.set i (e i)).take (i + 1) ++ (List.range' (i + 1) d).map e = xs.take i ++ (List.range' i (d + 1)).map e := by
        rw [List.range'_succ, List.map_cons, List.take_succ_eq_append_getElem (by rw [List.length_set]; omega), List.getElem_set_self, List.take_set_of_le (Nat.le_refl _)]
        simp
      rw [e1] at h
      exact h
theorem map_range {α β : Type} (l : List α) (z : α) (g : α → β) : (List.range' 0 l.length).map (fun i => g (l.getD i z)) = l.map g := by
  apply List.ext_getElem
  · simp
  · intro i h1 h2
    simp only [List.length_map] at h2
    simp [List.getD_eq_getElem?_getD, List.getElem?_eq_getElem h2]
theorem ev_fill_all {α β : Type} {L : Nat → List β → Int → Option (List β)} {E : Nat → Int → Option β} {l : List α} {z : α} {g : α → β} {xs : List β} (hn : l.length ≤ 9223372036854775807)
    (hs : ∀ k xs i, L (k + 1) xs i = if i < (l.length : Int) then (if 0 ≤ i then ((E k i).bind fun b => if i < (xs.length : Int) then L k (xs.set i.toNat b) (wrap64 (i + 1)) else none) else none) else some xs)
    (hE : ∀ i, i < l.length → Ev (fun k => E k (i : Int)) (g (l.getD i z))) (hx : xs.length = l.length) : Ev (fun k => L k xs 0) (l.map g) := by
  have h := ev_fill (e := fun i => g (l.getD i z)) hn hs hE l.length 0 xs hx (by omega)
  rw [map_range] at h
  simpa using h

/-- Every place meets a test, tried place by place. -/
theorem ev_all {L E : Nat → Int → Option Bool} {n m : Nat} (hn : n ≤ 9223372036854775807) (hnm : n ≤ m)
    (hs : ∀ k i, L (k + 1) i = if i < (n : Int) then (if 0 ≤ i then (if i < (m : Int) then ((E k i).bind fun b => if b = true then L k (wrap64 (i + 1)) else some false) else none) else none) else some true)
    (hE : ∀ i, i < n → Ev (fun k => E k (i : Int)) true) : ∀ (d i : Nat), i + d = n → Ev (fun k => L k (i : Int)) true := by
  intro d
  induction d with
  | zero => intro i hi; exact ev_some fun k => by rw [hs, if_neg (by omega)]
  | succ d ih =>
    intro i hi
    refine Ev.step (f := fun k => (E k (i : Int)).bind fun b => if b = true then L k ((i + 1 : Nat) : Int) else some false) (fun k => ?_) (ev_bind (hE i (by omega)) (by simpa using ih (i + 1) (by omega)))
    rw [hs, if_pos (by omega), if_pos (by omega), if_pos (by omega), wsucc (n := n) (by omega) hn]

/-- What is left of a number, place by place, as long as it is not below 0. -/
theorem ev_size {L E : Nat → Int → Int → Option Int} {n : Nat} {P : Nat → Prop} (hn : n ≤ 9223372036854775807)
    (hs : ∀ k a i, L (k + 1) a i = if i < (n : Int) then (if 0 ≤ i then ((E k i a).bind fun t => if t < 0 then some (-1) else L k t (wrap64 (i + 1))) else none) else some a)
    (hE : ∀ i a, i < n → 0 ≤ a → a ≤ 1048576 → ∃ t, Ev (fun k => E k (i : Int) a) t ∧ t ≤ a ∧ (0 ≤ t → P i)) :
    ∀ (d i : Nat) (a : Int), i + d = n → 0 ≤ a → a ≤ 1048576 → ∃ r, Ev (fun k => L k a (i : Int)) r ∧ r ≤ a ∧ (0 ≤ r → ∀ m, i ≤ m → m < n → P m) := by
  intro d
  induction d with
  | zero => intro i a hi h0 h1; exact ⟨a, ev_some fun k => by rw [hs, if_neg (by omega)], Int.le_refl _, fun _ m h2 h3 => by omega⟩
  | succ d ih =>
    intro i a hi h0 h1
    obtain ⟨t, ht, hta, hp⟩ := hE i a (by omega) h0 h1
    have hst : ∀ k, L (k + 1) a (i : Int) = (E k (i : Int) a).bind fun t => if t < 0 then some (-1) else L k t ((i + 1 : Nat) : Int) := fun k => by
      rw [hs, if_pos (by omega), if_pos (by omega), wsucc (n := n) (by omega) hn]
    by_cases hneg : t < 0
    · exact ⟨-1, Ev.step hst (ev_bind ht (by simp only [if_pos hneg]; exact Ev.now _)), by omega, fun h => by omega⟩
    · obtain ⟨r, hr, hra, hq⟩ := ih (i + 1) t (by omega) (by omega) (by omega)
      refine ⟨r, Ev.step hst (ev_bind ht (by simp only [if_neg hneg]; exact hr)), by omega, fun h0r m h2 h3 => ?_⟩
      by_cases e : m = i
      · subst e; exact hp (by omega)
      · exact hq h0r m (by omega) h3
end Go.Proofs.Ytodokejcmbjpbaa.Pu

namespace Go.Proofs.Ytodokejcmbjpbaa.PK
open Go.RowKit Go.Proofs.YtodokejcmbjpbaaW.PrintWords Go.Proofs.YtodokejcmbjpbaaW.PrintLast Go.Proofs.YtodokejcmbjpbaaW.PrintMore
attribute [local go_sem] max2_int min2_int max_two min_two max_three min_three max_four min_four
def spec_l01Var.l0 : Nat → Int → List Int → Option (ByteArray)
 | 0,_,_=>none
 | k + 1,x0,x3=>if x0 > 127 then (if x3.length < 140737488355328 then (spec_l01Var.l0 k (wrap64 (Int.tdiv x0 128)) (x3 ++ [(wrap64 ((Int.tmod x0 128) + 128)) % 256])) else (none)) else (if x3.length < 140737488355328 then (some (strOfNums (x3 ++ [(x0) % 256]))) else (none))
def spec_l01Var.f (k : Nat) (a0 : Int) : Option (ByteArray):=spec_l01Var.l0 k a0 (([] : List Int))
theorem spec_l01Var.mono_l : ∀ k,(∀ y0 y1,LeO (spec_l01Var.l0 k y0 y1) (spec_l01Var.l0 (k + 1) y0 y1))
 | 0=>fun _ _ r h=>by simp [spec_l01Var.l0] at h
 | k + 1=>by
  have ih0:=spec_l01Var.mono_l k;intro y0 y1;unfold spec_l01Var.l0
  repeat' first
  | (with_reducible exact ih0 _ _)
  | (with_reducible exact LeO.refl _)
  | (with_reducible exact LeO.none _)
  | (with_reducible refine LeO.ite ?_ ?_)
  | (with_reducible refine LeO.bind ?_ (fun _=>?_))
  | exact ih0 _ _
  | exact LeO.none _
  | refine LeO.ite ?_ ?_
  | refine LeO.bind ?_ (fun _=>?_)
theorem spec_l01Var.mono : ∀ a0 k,LeO (spec_l01Var.f k a0) (spec_l01Var.f (k + 1) a0):=by
 intro a0 k;have ih0:=spec_l01Var.mono_l k;unfold spec_l01Var.f
 repeat' first
   | (with_reducible exact ih0 _ _)
   | (with_reducible exact LeO.refl _)
   | (with_reducible exact LeO.none _)
   | (with_reducible refine LeO.ite ?_ ?_)
   | (with_reducible refine LeO.bind ?_ (fun _=>?_))
   | exact ih0 _ _
   | exact LeO.none _
   | refine LeO.ite ?_ ?_
   | refine LeO.bind ?_ (fun _=>?_)
set_option maxHeartbeats 8000000 in
set_option maxRecDepth 100000 in
theorem spec_l01Var.calls (k : Nat) (a0 : Int) (r : ByteArray) (w : World) (h : spec_l01Var.f k a0 = some r) :
  Calls Try.prog 53 #[.int .i64 a0] w fun e w'=>e = .returned (.string r) ∧ Below w.heap.size w w':=by
 have HB:=zMk (Below.refl w.heap.size w);have H : (spec_l01Var.l0 k a0 (([] : List Int))) = some r:=h;clear h;obtain ⟨y254,hy254⟩ : ∃ y_ : List Int,y_ = (([] : List Int)):=⟨_,rfl⟩;replace H : (spec_l01Var.l0 k a0 y254) = some r:=by first | (rw [hy254];with_reducible exact H) | (have H2_:=(Option.bind_some _ _).symm.trans H;rw [hy254];with_reducible exact H2_) | (have H2_:=(Option.bind_some _ _).symm.trans H;with_reducible exact H2_) | with_reducible exact H | (rw [hy254];exact H) | exact H
 have Ny254:=zMk hy254;clear hy254;have H':=zMk H;clear H
 go_enter Try.func53,Try.ntmps53
 go_wp2_with (first | ((with_reducible refine gate_dst (N:=4) rfl ?_);refine Kd.R_lit (Kd.int .u8) _ 5 ?hg (N:=4) ?hd (xs:=([] : List Int)) (inner:=[]) (ok:=fun _=>True) (okp:=fun _=>True) ?hr ?hp (fun _ hk=>hk) trivial (Below.refl _ _) (Nat.le_refl _) (by simp) ?_;(case hd=>rfl);(case hg=>rfl);(case hr=>first | (go_simp;done) | (go_simp;rfl));(case hp=>exact (Reps.none _ _));intro v255 w2 ho3 hb hg_ hnew_;clear hg_ hnew_;(first | rw [← Ny254.out] at ho3 | (simp only [Int.reduceToNat] at ho3;rw [← Ny254.out] at ho3));have n0_:=zMk (Kd.R_lower ho3 (below_size (hs HB)));have n1_:=zMk (below_step (hs HB) hb);clear HB;have HO256:=n0_;have HB:=n1_;clear n0_ n1_;clear hb ho3));go_loopg [0,3] k (fun kq v0 v3 w'=>∃ (x0_1 : Int) (x3_1 : List Int),v0 = .int .i64 x0_1 ∧ Aside0 (spec_l01Var.l0 kq x0_1 x3_1 = some r) ∧ Aside0 (kq ≤ k) ∧ Aside0 (Kd.R (Kd.int .u8) 5 w' w.heap.size (fun _=>True) v3 x3_1) ∧ Aside0 (Below w.heap.size w w'));case atStart=>exact ⟨(a0),(y254),(by first | rfl | (simp;done) | (simp [*];done)),H',⟨Nat.le_refl _⟩,⟨rs HO256⟩,⟨hs HB⟩⟩
 case round =>
  clear H'
  try clear p2
  obtain ⟨x0_1,x3_1,rfl,HA,HK1,HO_3,HB⟩:=hrel;cases gk with
  | zero=>exact absurd HA.out (by simp [spec_l01Var.l0])
  | succ k1 =>
   have H:=HA.out;clear HA;simp only [spec_l01Var.l0] at H
   by_cases c4 : x0_1 > 127
   ·rw [if_pos c4] at H;have c4b0 : decide (127 < x0_1) = true:=decide_eq_true c4;clear c4
    by_cases c5 : x3_1.length < 140737488355328
    ·rw [if_pos c5] at H;have LMc5:=zMk c5;clear c5;obtain ⟨y257,hy257⟩ : ∃ y_ : List Int,y_ = (x3_1 ++ [(wrap64 ((Int.tmod x0_1 128) + 128)) % 256]):=⟨_,rfl⟩;replace H : (spec_l01Var.l0 k1 (wrap64 (Int.tdiv x0_1 128)) y257) = some r:=by first | (rw [hy257];with_reducible exact H) | (have H2_:=(Option.bind_some _ _).symm.trans H;rw [hy257];with_reducible exact H2_) | (have H2_:=(Option.bind_some _ _).symm.trans H;with_reducible exact H2_) | with_reducible exact H | (rw [hy257];exact H) | exact H
     have Ny257:=zMk hy257;clear hy257;have H':=zMk H;clear H;go_wp2_with (first | ((with_reducible refine gate_builtin (b:=.append) (xs:=#[.tmp 7,.tmp 12]) rfl ?_);at_builtin;refine Kd.R_append (Kd.int .u8) (w0:=w) w.heap.size rfl (.tmp 7) (.tmp 12) 22 5 (.int .u8 0) 1 rfl Try.underlying22 info5 rfl (by decide) (by omega) u3 x3_1 ((wrap64 ((Int.tmod x0_1 128) + 128)) % 256) [.int .u8 ((wrap64 ((Int.tmod x0_1 128) + 128)) % 256)] (fun _=>True) (fun _=>False) rfl rfl ?aP (fun _ hk=>hk.elim) ?aF ?aO ?aB ?aS ?aL ?_;(case aP=>exact rfl);(case aB=>exact (hs HB));(case aF=>exact (fun _ _=>trivial));(case aO=>exact (rs HO_3));(case aS=>exact (below_size (hs HB)));(case aL=>have:=LMc5.out;omega);intro v258 w6 ho hb hg hat;rw [← Ny257.out] at ho;have n0_:=zMk (hb);have n1_:=zMk (ho);clear HB;clear HO_3;have HB:=n0_;have HO259:=n1_;clear n0_ n1_;clear ho hb hg hat));go_roundg k1;case measure=>have:=HK1.out;omega
     case rel=>exact ⟨(wrap64 (Int.tdiv x0_1 128)),(y257),(by first | rfl | (simp;done) | (simp [*];done)),H',⟨by have:=HK1.out;omega⟩,⟨rs HO259⟩,⟨hs HB⟩⟩
    rw [if_neg c5] at H;exact absurd H (by simp)
   rw [if_neg c4] at H;have c4b0 : decide (127 < x0_1) = false:=decide_eq_false c4;clear c4
   by_cases c7 : x3_1.length < 140737488355328
   ·rw [if_pos c7] at H;have LMc7:=zMk c7;clear c7;obtain ⟨y260,hy260⟩ : ∃ y_ : List Int,y_ = (x3_1 ++ [(x0_1) % 256]):=⟨_,rfl⟩;replace H : (some (strOfNums y260)) = some r:=by first | (rw [hy260];with_reducible exact H) | (have H2_:=(Option.bind_some _ _).symm.trans H;rw [hy260];with_reducible exact H2_) | (have H2_:=(Option.bind_some _ _).symm.trans H;with_reducible exact H2_) | with_reducible exact H | (rw [hy260];exact H) | exact H
    have Ny260:=zMk hy260;clear hy260;obtain rfl:=Option.some.inj H;go_wp2_with (first | ((with_reducible refine gate_builtin (b:=.append) (xs:=#[.tmp 16,.tmp 19]) rfl ?_);at_builtin;refine Kd.R_append (Kd.int .u8) (w0:=w) w.heap.size rfl (.tmp 16) (.tmp 19) 22 5 (.int .u8 0) 1 rfl Try.underlying22 info5 rfl (by decide) (by omega) u3 x3_1 ((x0_1) % 256) [.int .u8 ((x0_1) % 256)] (fun _=>True) (fun _=>False) rfl rfl ?aP (fun _ hk=>hk.elim) ?aF ?aO ?aB ?aS ?aL ?_;(case aP=>exact rfl);(case aB=>exact (hs HB));(case aF=>exact (fun _ _=>trivial));(case aO=>exact (rs HO_3));(case aS=>exact (below_size (hs HB)));(case aL=>have:=LMc7.out;omega);intro v261 w8 ho hb hg hat;rw [← Ny260.out] at ho;have n0_:=zMk (hb);have n1_:=zMk (ho);clear HB;clear HO_3;have HB:=n0_;have HO262:=n1_;clear n0_ n1_;clear ho hb hg hat;have hcv9:=own_string (P:=Try.prog) Try.underlying22 Try.underlying5 Try.underlying9 (Kd.own_of_R HO262.out)))
    go_ret
    exact ⟨by first | rfl | (simp [errW_none,errW_some] <;> rfl) | (simp [*,errW_none,errW_some] <;> rfl),hs HB⟩
   rw [if_neg c7] at H;exact absurd H (by simp)
end Go.Proofs.Ytodokejcmbjpbaa.PK

/- A number in bytes, as one list; the program's VarText and the reference's l01Var tell it. -/
namespace Go.Proofs.Ytodokejcmbjpbaa.Pu
open Go.RowKit Go.Proofs.Ytodokejcmbjpbaa.PK Go.Proofs.YtodokejcmbjpbaaW.PrintWords
/-- The bytes of a number, seven bits at a time. -/
def varL (n : Nat) : List Int := if h : n > 127 then ((n % 128 + 128 : Nat) : Int) :: varL (n / 128) else [(n : Int)]
theorem varL_long {n : Nat} (h : n > 127) : varL n = ((n % 128 + 128 : Nat) : Int) :: varL (n / 128) := by rw [varL, dif_pos h]
theorem varL_short {n : Nat} (h : ¬ n > 127) : varL n = [(n : Int)] := by rw [varL, dif_neg h]
theorem varL_len : ∀ (d n : Nat), n < 128 ^ (d + 1) → (varL n).length ≤ d + 1 ∧ 1 ≤ (varL n).length
  | 0, n, h => by rw [varL_short (by omega)]; simp
  | d + 1, n, h => by
    by_cases hn : n > 127
    · rw [varL_long hn]
      have := varL_len d (n / 128) (by rw [Nat.pow_succ] at h; omega)
      simp only [List.length_cons]
      omega
    · rw [varL_short hn]; simp
theorem varL_len5 {n : Nat} (h : n ≤ 1000000000) : (varL n).length ≤ 5 ∧ 1 ≤ (varL n).length := varL_len 4 n (by omega)
theorem wbyte {n : Nat} (h : n > 127) (hn : n ≤ 1000000000) : wrap64 (Int.tdiv (n : Int) 128) = ((n / 128 : Nat) : Int) ∧ wrap64 (Int.tmod (n : Int) 128 + 128) % 256 = ((n % 128 + 128 : Nat) : Int) := by
  rw [Int.tdiv_eq_ediv_of_nonneg (by omega), Int.tmod_eq_emod_of_nonneg (by omega), w64 (by omega) (by omega), w64 (by omega) (by omega)]
  omega
theorem sVar_ev : ∀ (d n : Nat) (acc : List Int), n < 128 ^ (d + 1) → n ≤ 1000000000 → acc.length + d ≤ 100 → Ev (fun k => spec_l01Var.l0 k n acc) (strOfNums (acc ++ varL n))
  | 0, n, acc, h, hn, ha => ev_some fun k => by
    simp only [spec_l01Var.l0]
    rw [if_neg (by omega), if_pos (by omega), varL_short (by omega), show (n : Int) % 256 = n by omega]
  | d + 1, n, acc, h, hn, ha => by
    by_cases h1 : n > 127
    · have := sVar_ev d (n / 128) (acc ++ [((n % 128 + 128 : Nat) : Int)]) (by rw [Nat.pow_succ] at h; omega) (by omega) (by simp; omega)
      rw [varL_long h1, show acc ++ ((n % 128 + 128 : Nat) : Int) :: varL (n / 128) = (acc ++ [((n % 128 + 128 : Nat) : Int)]) ++ varL (n / 128) by simp]
      refine Ev.step (fun k => ?_) this
      simp only [spec_l01Var.l0]
      rw [if_pos (by omega), if_pos (by omega), (wbyte h1 hn).1, (wbyte h1 hn).2]
    · refine ev_some fun k => ?_
      simp only [spec_l01Var.l0]
      rw [if_neg (by omega), if_pos (by omega), varL_short h1, show (n : Int) % 256 = n by omega]
theorem iVar_ev : ∀ (d n : Nat) (acc : List Int), n < 128 ^ (d + 1) → n ≤ 1000000000 → acc.length + d ≤ 100 → Ev (fun k => impl_VarText.l0 k n acc) (strOfNums (acc ++ varL n), true)
  | 0, n, acc, h, hn, ha => ev_some fun k => by
    simp only [impl_VarText.l0]
    rw [if_neg (by omega), if_pos (by omega), varL_short (by omega), show (n : Int) % 256 = n by omega]
  | d + 1, n, acc, h, hn, ha => by
    by_cases h1 : n > 127
    · have := iVar_ev d (n / 128) (acc ++ [((n % 128 + 128 : Nat) : Int)]) (by rw [Nat.pow_succ] at h; omega) (by omega) (by simp; omega)
      rw [varL_long h1, show acc ++ ((n % 128 + 128 : Nat) : Int) :: varL (n / 128) = (acc ++ [((n % 128 + 128 : Nat) : Int)]) ++ varL (n / 128) by simp]
      refine Ev.step (fun k => ?_) this
      simp only [impl_VarText.l0]
      rw [if_pos (by omega), if_pos (by omega), (wbyte h1 hn).1, (wbyte h1 hn).2]
    · refine ev_some fun k => ?_
      simp only [impl_VarText.l0]
      rw [if_neg (by omega), if_pos (by omega), varL_short h1, show (n : Int) % 256 = n by omega]
theorem l01Var_ev {n : Int} (h0 : 0 ≤ n) (h : n ≤ 1000000000) : Ev (fun k => spec_l01Var.f k n) (strOfNums (varL n.toNat)) := by
  have := sVar_ev 4 n.toNat [] (by omega) (by omega) (by simp)
  rw [List.nil_append, show ((n.toNat : Nat) : Int) = n by omega] at this
  exact this
theorem varOf_ev {n : Int} (h0 : 0 ≤ n) (h : n ≤ 1000000000) : Ev (fun k => impl_varOf.f k n) (strOfNums (varL n.toNat)) := by
  have := iVar_ev 4 n.toNat [] (by omega) (by omega) (by simp)
  rw [List.nil_append, show ((n.toNat : Nat) : Int) = n by omega] at this
  unfold impl_varOf.f impl_VarText.f
  have e : impl_in.f n 0 1000000000 = some true := by
    unfold impl_in.f
    rw [if_pos h0, decide_eq_true h]
  simp only [e, Option.bind_some, if_true]
  exact ev_bind this (Ev.now _)
theorem strOf_size (l : List Int) : (strOfNums l).size = l.length := by
  unfold strOfNums
  simp [ByteArray.size]
end Go.Proofs.Ytodokejcmbjpbaa.Pu

/- More plain facts on rounds: tests in a row, folds, searches. -/
namespace Go.Proofs.Ytodokejcmbjpbaa.Pu
open Go.RowKit Go.Proofs.YtodokejcmbjpbaaW.PrintWords
/-- Tests in a row, one a round; then what comes. -/
theorem ev_scan {L : Nat → Int → Option Bool} {g : Nat → Option Bool} {n : Nat} {T : Nat → Bool} {r : Bool}
    (hs : ∀ k i, i < n → L (k + 1) (i : Int) = if T i = true then L k ((i + 1 : Nat) : Int) else some false) (he : ∀ k, L (k + 1) (n : Int) = g k) (hr : Ev g r) :
    ∀ (d i : Nat), i + d = n → Ev (fun k => L k (i : Int)) ((List.range' i d).all T && r) := by
  intro d
  induction d with
  | zero =>
    intro i hi
    obtain rfl : i = n := by omega
    exact Ev.step he hr
  | succ d ih =>
    intro i hi
    rw [List.range'_succ, List.all_cons]
    by_cases h : T i = true
    · rw [h, Bool.true_and]
      exact Ev.step (fun k => by rw [hs k i (by omega), if_pos h]) (ih (i + 1) (by omega))
    · rw [Bool.eq_false_iff.mpr h, Bool.false_and, Bool.false_and]
      exact ev_some fun k => by rw [hs k i (by omega), if_neg h]
/-- Tests in a row, each of many rounds; then what comes. -/
theorem ev_outer {L : Nat → Int → Option Bool} {n : Nat} {T : Nat → Bool} {r0 : Bool}
    (hs : ∀ i r, i < n → Ev (fun k => L k ((i + 1 : Nat) : Int)) r → Ev (fun k => L k (i : Int)) (T i && r)) (he : Ev (fun k => L k (n : Int)) r0) :
    ∀ (d i : Nat), i + d = n → Ev (fun k => L k (i : Int)) ((List.range' i d).all T && r0) := by
  intro d
  induction d with
  | zero =>
    intro i hi
    obtain rfl : i = n := by omega
    exact he
  | succ d ih =>
    intro i hi
    rw [List.range'_succ, List.all_cons, Bool.and_assoc]
    exact hs i _ (by omega) (ih (i + 1) (by omega))
/-- A state that is carried along; then what comes. -/
theorem ev_fold {σ ρ : Type} {L : Nat → σ → Int → Option ρ} {n : Nat} {F : σ → Nat → σ} {fin : σ → ρ} (Inv : Nat → σ → Prop)
    (hs : ∀ s i, i < n → Inv i s → ∀ r, Ev (fun k => L k (F s i) ((i + 1 : Nat) : Int)) r → Ev (fun k => L k s (i : Int)) r) (hi : ∀ s i, i < n → Inv i s → Inv (i + 1) (F s i))
    (he : ∀ s, Inv n s → Ev (fun k => L k s (n : Int)) (fin s)) : ∀ (d i : Nat) (s : σ), i + d = n → Inv i s → Ev (fun k => L k s (i : Int)) (fin ((List.range' i d).foldl F s)) := by
  intro d
  induction d with
  | zero =>
    intro i s h hv
    obtain rfl : i = n := by omega
    exact he s hv
  | succ d ih =>
    intro i s h hv
    rw [List.range'_succ, List.foldl_cons]
    exact hs s i (by omega) hv _ (ih (i + 1) (F s i) (by omega) (hi s i (by omega) hv))
/-- The first place that meets a test, -1 without one. -/
def findI (T : Nat → Bool) : Nat → Nat → Int
  | _, 0 => -1
  | i, d + 1 => if T i = true then (i : Int) else findI T (i + 1) d
theorem ev_find {L : Nat → Int → Option Int} {n : Nat} {T : Nat → Bool}
    (hy : ∀ i, i < n → T i = true → Ev (fun k => L k (i : Int)) (i : Int)) (hn : ∀ i, i < n → T i = false → ∀ r, Ev (fun k => L k ((i + 1 : Nat) : Int)) r → Ev (fun k => L k (i : Int)) r)
    (he : Ev (fun k => L k (n : Int)) (-1)) : ∀ (d i : Nat), i + d = n → Ev (fun k => L k (i : Int)) (findI T i d) := by
  intro d
  induction d with
  | zero =>
    intro i hi
    obtain rfl : i = n := by omega
    exact he
  | succ d ih =>
    intro i hi
    unfold findI
    by_cases h : T i = true
    · rw [if_pos h]; exact hy i (by omega) h
    · rw [if_neg h]; exact hn i (by omega) (Bool.eq_false_iff.mpr h) _ (ih (i + 1) (by omega))
theorem findI_range {T : Nat → Bool} : ∀ (d i : Nat), findI T i d = -1 ∨ ∃ j, i ≤ j ∧ j < i + d ∧ findI T i d = (j : Int) ∧ T j = true
  | 0, i => .inl rfl
  | d + 1, i => by
    unfold findI
    by_cases h : T i = true
    · rw [if_pos h]; exact .inr ⟨i, Nat.le_refl _, by omega, rfl, h⟩
    · rw [if_neg h]
      rcases findI_range d (i + 1) with h1 | ⟨j, h1, h2, h3, h4⟩
      · exact .inl h1
      · exact .inr ⟨j, by omega, by omega, h3, h4⟩
theorem bytes_empty (a : ByteArray) : (a.toList == ([] : List UInt8)) = decide ((a.size : Int) ≤ 0) := by
  rw [ByteArray.toList_eq]
  have h : a.data.toList.length = a.size := by rw [Array.length_toList]; rfl
  cases e : a.data.toList with
  | nil =>
    have h1 : a.size = 0 := by rw [← h, e]; rfl
    rw [decide_eq_true (by omega)]; rfl
  | cons x l =>
    have h1 : a.size = l.length + 1 := by rw [← h, e]; rfl
    rw [decide_eq_false (by omega)]; rfl
theorem getD_mem' {α : Type} {l : List α} {i : Nat} {z : α} (hi : i < l.length) : l.getD i z ∈ l := by
  rw [List.getD_eq_getElem?_getD, List.getElem?_eq_getElem hi]; exact List.getElem_mem hi
end Go.Proofs.Ytodokejcmbjpbaa.Pu

namespace Go.Proofs.Ytodokejcmbjpbaa.PK
open Go.RowKit Go.Proofs.YtodokejcmbjpbaaW.PrintWords Go.Proofs.YtodokejcmbjpbaaW.PrintLast Go.Proofs.YtodokejcmbjpbaaW.PrintMore
attribute [local go_sem] max2_int min2_int max_two min_two max_three min_three max_four min_four
def spec_l01In.f (a0 : Int) (a1 : Int) (a2 : Int) : Option (Bool):=if a0 ≥ a1 then (some (decide (a0 ≤ a2))) else (some false)
set_option maxHeartbeats 8000000 in
set_option maxRecDepth 100000 in
theorem spec_l01In.calls (a0 : Int) (a1 : Int) (a2 : Int) (r : Bool) (w : World) (h : spec_l01In.f a0 a1 a2 = some r) :
  Calls Try.prog 34 #[.int .i64 a0,.int .i64 a1,.int .i64 a2] w fun e w'=>e = .returned (.bool r) ∧ Drawn0 w w':=by
 have H : (if a0 ≥ a1 then (some (decide (a0 ≤ a2))) else (some false)) = some r:=h;clear h
 by_cases c4 : a0 ≥ a1
 ·rw [if_pos c4] at H;have c4b0 : decide (a1 ≤ a0) = true:=decide_eq_true c4;clear c4;obtain rfl:=Option.some.inj H
  go_enter Try.func34,Try.ntmps34
  go_wp2
  go_ret
  exact ⟨by first | rfl | (simp;done) | (simp [*];done),by repeat (first | exact Drawn0.refl _ | apply Drawn0.step)⟩
 rw [if_neg c4] at H;have c4b0 : decide (a1 ≤ a0) = false:=decide_eq_false c4;clear c4;obtain rfl:=Option.some.inj H
 go_enter Try.func34,Try.ntmps34
 go_wp2
 go_ret
 exact ⟨by first | rfl | (simp;done) | (simp [*];done),by repeat (first | exact Drawn0.refl _ | apply Drawn0.step)⟩
mutual
def spec_ReadVar.l0 : Nat → ByteArray → Int → Int → Int → Int → Option (Int × Int × Bool)
 | 0,_,_,_,_,_=>none
 | k + 1,x0,x1,x7,x8,x9=>if x9 < (x0.size : Int) then (spec_ReadVar.j1 k x0 x1 x7 x8 x9 (decide (x9 < (wrap64 (x1 + 5))))) else (spec_ReadVar.j1 k x0 x1 x7 x8 x9 false)
def spec_ReadVar.j1 : Nat → ByteArray → Int → Int → Int → Int → Bool → Option (Int × Int × Bool)
 | 0,_,_,_,_,_,_=>none
 | k + 1,x0,x1,x7,x8,x9,x25=>if x25 = true then (if 0 ≤ x9 then (if x9 < (x0.size : Int) then (if (bt x0 x9) < 128 then (if (wrap64 (x7 + (wrap64 ((Int.tmod (wrap64 (bt x0 x9)) 128) * x8)))) > 1000000000 then (some (0,0,false)) else ((spec_l01Var.f k (wrap64 (x7 + (wrap64 ((Int.tmod (wrap64 (bt x0 x9)) 128) * x8))))).bind fun t662=>(if 0 ≤ x1 then (if x1 ≤ (wrap64 (x9 + 1)) then (if (wrap64 (x9 + 1)) ≤ (x0.size : Int) then (if t662.toList = (x0.extract (x1 : Int).toNat ((wrap64 (x9 + 1)) : Int).toNat).toList then (some (wrap64 (x7 + (wrap64 ((Int.tmod (wrap64 (bt x0 x9)) 128) * x8))),wrap64 (x9 + 1),true)) else (some (0,0,false))) else (none)) else (none)) else (none)))) else (spec_ReadVar.l0 k x0 x1 (wrap64 (x7 + (wrap64 ((Int.tmod (wrap64 (bt x0 x9)) 128) * x8)))) (wrap64 (x8 * 128)) (wrap64 (x9 + 1)))) else (none)) else (none)) else (some (0,0,false))
end
def spec_ReadVar.f (k : Nat) (a0 : ByteArray) (a1 : Int) : Option (Int × Int × Bool):=(spec_l01In.f a1 0 (a0.size : Int)).bind fun t661=>(if t661 = true then (spec_ReadVar.l0 k a0 a1 0 1 a1) else (some (0,0,false)))
theorem spec_ReadVar.mono_l : ∀ k,(∀ y0 y1 y2 y3 y4,LeO (spec_ReadVar.l0 k y0 y1 y2 y3 y4) (spec_ReadVar.l0 (k + 1) y0 y1 y2 y3 y4)) ∧ (∀ y0 y1 y2 y3 y4 y5,LeO (spec_ReadVar.j1 k y0 y1 y2 y3 y4 y5) (spec_ReadVar.j1 (k + 1) y0 y1 y2 y3 y4 y5))
 | 0=>⟨fun _ _ _ _ _ r h=>by simp [spec_ReadVar.l0] at h,fun _ _ _ _ _ _ r h=>by simp [spec_ReadVar.j1] at h⟩
 | k + 1=>by
  obtain ⟨ih0,ih1⟩:=spec_ReadVar.mono_l k;refine ⟨?_,?_⟩
  ·intro y0 y1 y2 y3 y4;unfold spec_ReadVar.l0
   repeat' first
   | (with_reducible exact ih0 _ _ _ _ _)
   | (with_reducible exact ih1 _ _ _ _ _ _)
   | (with_reducible exact spec_l01Var.mono _ _)
   | (with_reducible exact LeO.refl _)
   | (with_reducible exact LeO.none _)
   | (with_reducible refine LeO.ite ?_ ?_)
   | (with_reducible refine LeO.bind ?_ (fun _=>?_))
   | exact ih0 _ _ _ _ _
   | exact ih1 _ _ _ _ _ _
   | exact spec_l01Var.mono _ _
   | exact LeO.none _
   | refine LeO.ite ?_ ?_
   | refine LeO.bind ?_ (fun _=>?_)
  intro y0 y1 y2 y3 y4 y5;unfold spec_ReadVar.j1
  repeat' first
  | (with_reducible exact ih0 _ _ _ _ _)
  | (with_reducible exact ih1 _ _ _ _ _ _)
  | (with_reducible exact spec_l01Var.mono _ _)
  | (with_reducible exact LeO.refl _)
  | (with_reducible exact LeO.none _)
  | (with_reducible refine LeO.ite ?_ ?_)
  | (with_reducible refine LeO.bind ?_ (fun _=>?_))
  | exact ih0 _ _ _ _ _
  | exact ih1 _ _ _ _ _ _
  | exact spec_l01Var.mono _ _
  | exact LeO.none _
  | refine LeO.ite ?_ ?_
  | refine LeO.bind ?_ (fun _=>?_)
theorem spec_ReadVar.mono : ∀ a0 a1 k,LeO (spec_ReadVar.f k a0 a1) (spec_ReadVar.f (k + 1) a0 a1):=by
 intro a0 a1 k;obtain ⟨ih0,ih1⟩:=spec_ReadVar.mono_l k;unfold spec_ReadVar.f
 repeat' first
   | (with_reducible exact ih0 _ _ _ _ _)
   | (with_reducible exact ih1 _ _ _ _ _ _)
   | (with_reducible exact spec_l01Var.mono _ _)
   | (with_reducible exact LeO.refl _)
   | (with_reducible exact LeO.none _)
   | (with_reducible refine LeO.ite ?_ ?_)
   | (with_reducible refine LeO.bind ?_ (fun _=>?_))
   | exact ih0 _ _ _ _ _
   | exact ih1 _ _ _ _ _ _
   | exact spec_l01Var.mono _ _
   | exact LeO.none _
   | refine LeO.ite ?_ ?_
   | refine LeO.bind ?_ (fun _=>?_)
def spec_ReadVar.T11 : Bool × List (List Nat × List Nat):=(true,[([],[]),([0],[0]),([1],[1]),([2],[2]),([3,2,2],[2,3]),([2],[2]),([2],[2]),([2],[2]),([7,2],[2,7]),([5,6,8,2],[2,5,6,8]),([4,9,2],[2,4,9]),([2,10],[2,10])])
def spec_ReadVar.B11 : List Nat:=[0,1,3,7,15,7,7,7,135,487,1023,2047]
theorem spec_ReadVar.tab11 : rtab .any (opsOf Try.f80 11) = spec_ReadVar.T11:=by kernel_rfl
theorem spec_ReadVar.bits11 : waitsOk spec_ReadVar.T11.2 spec_ReadVar.B11 = true:=by kernel_rfl
set_option maxHeartbeats 8000000 in
set_option maxRecDepth 100000 in
theorem spec_ReadVar.calls (k : Nat) (a0 : ByteArray) (a1 : Int) (r1 : Int) (r2 : Int) (r3 : Bool) (w : World) (h : spec_ReadVar.f k a0 a1 = some (r1,r2,r3)) :
  Calls Try.prog 80 #[.string a0,.int .i64 a1] w fun e w'=>e = .returned (.tuple #[.int .i64 r1,.int .i64 r2,.bool r3]) ∧ Below w.heap.size w w':=by
 have HB:=zMk (Below.refl w.heap.size w);have H : ((spec_l01In.f a1 0 (a0.size : Int)).bind fun t661=>(if t661 = true then (spec_ReadVar.l0 k a0 a1 0 1 a1) else (some (0,0,false)))) = some (r1,r2,r3):=h;clear h;replace H:=Option.bind_eq_some_iff.mp H;obtain ⟨t661,A30,H⟩:=H;replace H : (if t661 = true then (spec_ReadVar.l0 k a0 a1 0 1 a1) else (some (0,0,false))) = some (r1,r2,r3):=H;have A3:=zMk A30;clear A30
 by_cases c4 : t661 = true
 ·subst c4;have H1 : (spec_ReadVar.l0 k a0 a1 0 1 a1) = some (r1,r2,r3):=by rw [if_pos rfl] at H;exact H
  clear H;have H:=H1;clear H1;have H':=zMk H;clear H
  go_enter Try.func80,Try.ntmps80
  go_wp2_with (first | ((with_reducible refine gate_callee (f:=34) rfl ?_);refine goesL_ (some 13) rfl rfl Try.func34 (by kernel_rfl) rfl #[.int .i64 a1,.int .i64 0,.int .i64 (a0.size : Int)] rfl (by (try simp only [List.map_toArray,List.map_cons,List.map_nil]);first | done | rfl | (simp only [List.length_drop,List.length_take];rfl)) ?_;(with_reducible refine (spec_l01In.calls a1 0 (a0.size : Int) true _ A3.out).mono ?_);rintro e w' ⟨rfl,⟨nd,rfl⟩⟩;refine ⟨_,rfl,?_⟩));go_loopg [7,8,9] k (fun kq v7 v8 v9 w'=>∃ (x7_1 : Int) (x8_1 : Int) (x9_1 : Int),v7 = .int .i64 x7_1 ∧ v8 = .int .i64 x8_1 ∧ v9 = .int .i64 x9_1 ∧ Aside0 (spec_ReadVar.l0 kq a0 a1 x7_1 x8_1 x9_1 = some (r1,r2,r3)) ∧ Aside0 (kq ≤ k) ∧ Aside0 (Below w.heap.size w w'));case atStart=>exact ⟨(0),(1),(a1),(by first | rfl | (simp;done) | (simp [*];done)),(by first | rfl | (simp;done) | (simp [*];done)),(by first | rfl | (simp;done) | (simp [*];done)),H',⟨Nat.le_refl _⟩,⟨hs HB⟩⟩
  case round =>
   clear H'
   try clear p2
   try clear c3
   try clear c4
   obtain ⟨x7_1,x8_1,x9_1,rfl,rfl,rfl,HA,HK1,HB⟩:=hrel;cases gk with
   | zero=>exact absurd HA.out (by simp [spec_ReadVar.l0])
   | succ k1 =>
    have H:=HA.out;clear HA;simp only [spec_ReadVar.l0] at H;have HC5:=zMk H;clear H;go_upto_region 6 with (fail);go_cut [25] (fun v25 wc=>∃ (kq : Nat) (x25_4 : Bool),v25 = .bool x25_4 ∧ Aside0 (spec_ReadVar.j1 kq a0 a1 x7_1 x8_1 x9_1 x25_4 = some (r1,r2,r3)) ∧ Aside0 (kq ≤ k1) ∧ Aside0 (Below w.heap.size w wc))
    case first =>
     have H:=HC5.out;clear HC5
     by_cases c6 : x9_1 < (a0.size : Int)
     ·rw [if_pos c6] at H;have c6b0 : decide (x9_1 < (a0.size : Int)) = true:=decide_eq_true c6;clear c6
      (first | rw [c6b0] | (simp only [i64_w,i32_w];rw [c6b0]) | skip)
      have H':=zMk H;clear H
      go_wp2
      go_meet
      case rel=>exact ⟨_,(decide (x9_1 < (wrap64 (a1 + 5)))),(by first | rfl | (simp;done) | (simp [*];done)),H',⟨by have:=HK1.out;first | omega | exact Nat.le_refl _⟩,⟨hs HB⟩⟩
     rw [if_neg c6] at H;have c6b0 : decide (x9_1 < (a0.size : Int)) = false:=decide_eq_false c6;clear c6
     (first | rw [c6b0] | (simp only [i64_w,i32_w];rw [c6b0]) | skip)
     have H':=zMk H;clear H
     go_wp2
     go_meet
     case rel=>exact ⟨_,(false),(by first | rfl | (simp;done) | (simp [*];done)),H',⟨by have:=HK1.out;first | omega | exact Nat.le_refl _⟩,⟨hs HB⟩⟩
    case rest =>
     clear HC5
     try clear p2
     try clear c3
     try clear c4
     try clear c6
     try clear c6b0
     try clear p6
     try clear p2
     obtain ⟨kq,x25_4,rfl,HA,HJ4,HB⟩:=hcut;cases kq with
     | zero=>exact absurd HA.out (by simp [spec_ReadVar.j1])
     | succ kj4 =>
      have H:=HA.out;clear HA;simp only [spec_ReadVar.j1] at H
      by_cases c7 : x25_4 = true
      ·subst c7;have H1 : (if 0 ≤ x9_1 then (if x9_1 < (a0.size : Int) then (if (bt a0 x9_1) < 128 then (if (wrap64 (x7_1 + (wrap64 ((Int.tmod (wrap64 (bt a0 x9_1)) 128) * x8_1)))) > 1000000000 then (some (0,0,false)) else ((spec_l01Var.f kj4 (wrap64 (x7_1 + (wrap64 ((Int.tmod (wrap64 (bt a0 x9_1)) 128) * x8_1))))).bind fun t662=>(if 0 ≤ a1 then (if a1 ≤ (wrap64 (x9_1 + 1)) then (if (wrap64 (x9_1 + 1)) ≤ (a0.size : Int) then (if t662.toList = (a0.extract (a1 : Int).toNat ((wrap64 (x9_1 + 1)) : Int).toNat).toList then (some (wrap64 (x7_1 + (wrap64 ((Int.tmod (wrap64 (bt a0 x9_1)) 128) * x8_1))),wrap64 (x9_1 + 1),true)) else (some (0,0,false))) else (none)) else (none)) else (none)))) else (spec_ReadVar.l0 kj4 a0 a1 (wrap64 (x7_1 + (wrap64 ((Int.tmod (wrap64 (bt a0 x9_1)) 128) * x8_1)))) (wrap64 (x8_1 * 128)) (wrap64 (x9_1 + 1)))) else (none)) else (none)) = some (r1,r2,r3):=by rw [if_pos rfl] at H;exact H
       clear H;have H:=H1;clear H1
       by_cases c8 : 0 ≤ x9_1
       ·rw [if_pos c8] at H;have c8b0 : decide (0 ≤ x9_1) = true:=decide_eq_true c8;clear c8
        by_cases c9 : x9_1 < (a0.size : Int)
        ·rw [if_pos c9] at H;have c9b0 : decide (x9_1 < (a0.size : Int)) = true:=decide_eq_true c9;clear c9
         by_cases c12 : (bt a0 x9_1) < 128
         ·rw [if_pos c12] at H;have c12b0 : decide ((bt a0 x9_1) < 128) = true:=decide_eq_true c12;clear c12
          by_cases c13 : (wrap64 (x7_1 + (wrap64 ((Int.tmod (wrap64 (bt a0 x9_1)) 128) * x8_1)))) > 1000000000
          ·rw [if_pos c13] at H;have c13b0 : decide (1000000000 < (wrap64 (x7_1 + (wrap64 ((Int.tmod (wrap64 (bt a0 x9_1)) 128) * x8_1))))) = true:=decide_eq_true c13;clear c13;simp only [Option.some.injEq,Prod.mk.injEq] at H;obtain ⟨rfl,rfl,rfl⟩:=H;have p10 : 0 ≤ (x9_1 : Int):=zDe (by first | (with_reducible assumption) | assumption);have q10 : x9_1 < (a0.size : Int):=zDe (by first | (with_reducible assumption) | assumption);have hx10:=bt_at a0 x9_1;replace p10:=eq_true p10;replace q10:=eq_true q10;have p11 : 0 ≤ (x9_1 : Int):=zDe (by first | (with_reducible assumption) | assumption);have q11 : x9_1 < (a0.size : Int):=zDe (by first | (with_reducible assumption) | assumption);have hx11:=bt_at a0 x9_1;replace p11:=eq_true p11;replace q11:=eq_true q11
           try go_wp2
           have n0_:=zMk (below_drew1 HB.out);clear HB;have HB:=n0_;clear n0_;refine start_ (n:=12) (S:=fun w'=>True) (ds:=[]) #[false,false,false,false,false,false,false,false,false,false,false,false] (by kernel_rfl) rfl rfl trivial (fun hHeld=>?_);refine with_tabW spec_ReadVar.tab11 spec_ReadVar.bits11 (fun HT_ HW_=>?_);generalize wc.drew = w14 at HB hHeld ⊢;refine pure_ (i:=0) (N:=some 43) (v:=?_) (a':=?_) #[true,false,false,false,false,false,false,false,false,false,false,false] rfl rfl (any_of HT_.out (by kernel_rfl)) (fun _ _ _ h=>h) (Or.inl ⟨by rfl,?_⟩) ?_ ?_;rotate_left
           ·intro w';go_simp;with_reducible rfl
           rotate_left
           ·simp only [Act.put,zS1,zS2,zS3,i64_w,i32_w];rfl
           refine pure_ (i:=1) (N:=some 44) (v:=?_) (a':=?_) #[true,true,false,false,false,false,false,false,false,false,false,false] rfl rfl (any_of HT_.out (by kernel_rfl)) (fun _ _ _ h=>h) (Or.inl ⟨by rfl,?_⟩) ?_ ?_;rotate_left
           ·intro w';go_simp;with_reducible rfl
           rotate_left
           ·simp only [Act.put,zS1,zS2,zS3,i64_w,i32_w];rfl
           refine pure_ (i:=2) (N:=some 45) (v:=?_) (a':=?_) #[true,true,true,false,false,false,false,false,false,false,false,false] rfl rfl (any_of HT_.out (by kernel_rfl)) (fun _ _ _ h=>h) (Or.inl ⟨by rfl,?_⟩) ?_ ?_;rotate_left
           ·intro w';go_simp;with_reducible rfl
           rotate_left
           ·simp only [Act.put,zS1,zS2,zS3,i64_w,i32_w];rfl
           refine pure_ (i:=3) (N:=some 46) (v:=undef) (a':=?_) #[true,true,true,true,false,false,false,false,false,false,false,false] rfl rfl (any_of HT_.out (by kernel_rfl)) (fun _ _ _ h=>h) (Or.inr ⟨by rfl,rfl⟩) ?_ ?_;rotate_left
           ·simp only [Act.put,zS1,zS2,zS3,i64_w,i32_w];rfl
           refine pure_ (i:=4) (N:=some 47) (v:=undef) (a':=?_) #[true,true,true,true,true,false,false,false,false,false,false,false] rfl rfl (any_of HT_.out (by kernel_rfl)) (fun _ _ _ h=>h) (Or.inr ⟨by rfl,rfl⟩) ?_ ?_;rotate_left
           ·simp only [Act.put,zS1,zS2,zS3,i64_w,i32_w];rfl
           refine pure_ (i:=5) (N:=some 48) (v:=undef) (a':=?_) #[true,true,true,true,true,true,false,false,false,false,false,false] rfl rfl (any_of HT_.out (by kernel_rfl)) (fun _ _ _ h=>h) (Or.inr ⟨by rfl,rfl⟩) ?_ ?_;rotate_left
           ·simp only [Act.put,zS1,zS2,zS3,i64_w,i32_w];rfl
           refine pure_ (i:=6) (N:=some 49) (v:=undef) (a':=?_) #[true,true,true,true,true,true,true,false,false,false,false,false] rfl rfl (any_of HT_.out (by kernel_rfl)) (fun _ _ _ h=>h) (Or.inr ⟨by rfl,rfl⟩) ?_ ?_;rotate_left
           ·simp only [Act.put,zS1,zS2,zS3,i64_w,i32_w];rfl
           refine pure_ (i:=7) (N:=some 50) (v:=undef) (a':=?_) #[true,true,true,true,true,true,true,true,false,false,false,false] rfl rfl (any_of HT_.out (by kernel_rfl)) (fun _ _ _ h=>h) (Or.inr ⟨by rfl,rfl⟩) ?_ ?_;rotate_left
           ·simp only [Act.put,zS1,zS2,zS3,i64_w,i32_w];rfl
           refine pure_ (i:=8) (N:=some 51) (v:=undef) (a':=?_) #[true,true,true,true,true,true,true,true,true,false,false,false] rfl rfl (any_of HT_.out (by kernel_rfl)) (fun _ _ _ h=>h) (Or.inr ⟨by rfl,rfl⟩) ?_ ?_;rotate_left
           ·simp only [Act.put,zS1,zS2,zS3,i64_w,i32_w];rfl
           refine pure_ (i:=9) (N:=some 52) (v:=undef) (a':=?_) #[true,true,true,true,true,true,true,true,true,true,false,false] rfl rfl (any_of HT_.out (by kernel_rfl)) (fun _ _ _ h=>h) (Or.inr ⟨by rfl,rfl⟩) ?_ ?_;rotate_left
           ·simp only [Act.put,zS1,zS2,zS3,i64_w,i32_w];rfl
           refine pure_ (i:=10) (N:=some 53) (v:=undef) (a':=?_) #[true,true,true,true,true,true,true,true,true,true,true,false] rfl rfl (any_of HT_.out (by kernel_rfl)) (fun _ _ _ h=>h) (Or.inr ⟨by rfl,rfl⟩) ?_ ?_;rotate_left
           ·simp only [Act.put,zS1,zS2,zS3,i64_w,i32_w];rfl
           refine pure_ (i:=11) (N:=some 54) (v:=?_) (a':=?_) #[true,true,true,true,true,true,true,true,true,true,true,true] rfl rfl (any_of HT_.out (by kernel_rfl)) (fun _ _ _ h=>h) (Or.inl ⟨by rfl,?_⟩) ?_ ?_;rotate_left
           ·intro w';go_simp;with_reducible rfl
           rotate_left
           ·simp only [Act.put,zS1,zS2,zS3,i64_w,i32_w];rfl
           refine done_ (done_of HT_.out (by kernel_rfl)) ?_
           try go_wp2
           go_ret3
           exact ⟨by first | rfl | (simp [errW_none,errW_some] <;> rfl) | (simp [*,errW_none,errW_some] <;> rfl),hs HB⟩
          rw [if_neg c13] at H;have c13b0 : decide (1000000000 < (wrap64 (x7_1 + (wrap64 ((Int.tmod (wrap64 (bt a0 x9_1)) 128) * x8_1))))) = false:=decide_eq_false c13;clear c13;replace H:=Option.bind_eq_some_iff.mp H;obtain ⟨t662,A150,H⟩:=H;replace H : (if 0 ≤ a1 then (if a1 ≤ (wrap64 (x9_1 + 1)) then (if (wrap64 (x9_1 + 1)) ≤ (a0.size : Int) then (if t662.toList = (a0.extract (a1 : Int).toNat ((wrap64 (x9_1 + 1)) : Int).toNat).toList then (some (wrap64 (x7_1 + (wrap64 ((Int.tmod (wrap64 (bt a0 x9_1)) 128) * x8_1))),wrap64 (x9_1 + 1),true)) else (some (0,0,false))) else (none)) else (none)) else (none)) = some (r1,r2,r3):=H;have A15:=zMk A150;clear A150
          by_cases c16 : 0 ≤ a1
          ·rw [if_pos c16] at H;have c16b0:=eq_true c16;have c16b1 : decide (0 ≤ a1) = true:=decide_eq_true c16;clear c16
           by_cases c17 : a1 ≤ (wrap64 (x9_1 + 1))
           ·rw [if_pos c17] at H;have c17b0:=eq_true c17;have c17b1 : decide (a1 ≤ (wrap64 (x9_1 + 1))) = true:=decide_eq_true c17
            by_cases c18 : (wrap64 (x9_1 + 1)) ≤ (a0.size : Int)
            ·rw [if_pos c18] at H;have c18b0:=eq_true c18;have c18b1 : decide ((wrap64 (x9_1 + 1)) ≤ (a0.size : Int)) = true:=decide_eq_true c18
             by_cases c19 : t662.toList = (a0.extract (a1 : Int).toNat ((wrap64 (x9_1 + 1)) : Int).toNat).toList
             ·rw [if_pos c19] at H;have c19b0 : (t662.toList == (a0.extract (a1 : Int).toNat ((wrap64 (x9_1 + 1)) : Int).toNat).toList) = true:=beq_iff_eq.mpr c19;have c19b1 : (t662.toList != (a0.extract (a1 : Int).toNat ((wrap64 (x9_1 + 1)) : Int).toNat).toList) = false:=bne_eq_false_iff_eq.mpr c19;clear c19;simp only [Option.some.injEq,Prod.mk.injEq] at H;obtain ⟨rfl,rfl,rfl⟩:=H;have p10 : 0 ≤ (x9_1 : Int):=zDe (by first | (with_reducible assumption) | assumption);have q10 : x9_1 < (a0.size : Int):=zDe (by first | (with_reducible assumption) | assumption);have hx10:=bt_at a0 x9_1;replace p10:=eq_true p10;replace q10:=eq_true q10;have p11 : 0 ≤ (x9_1 : Int):=zDe (by first | (with_reducible assumption) | assumption);have q11 : x9_1 < (a0.size : Int):=zDe (by first | (with_reducible assumption) | assumption);have hx11:=bt_at a0 x9_1;replace p11:=eq_true p11;replace q11:=eq_true q11
              try go_wp2
              have n0_:=zMk (below_drew1 HB.out);clear HB;have HB:=n0_;clear n0_;refine start_ (n:=12) (S:=fun w'=>True) (ds:=[]) #[false,false,false,false,false,false,false,false,false,false,false,false] (by kernel_rfl) rfl rfl trivial (fun hHeld=>?_);refine with_tabW spec_ReadVar.tab11 spec_ReadVar.bits11 (fun HT_ HW_=>?_);generalize wc.drew = w20 at HB hHeld ⊢;refine pure_ (i:=0) (N:=some 43) (v:=?_) (a':=?_) #[true,false,false,false,false,false,false,false,false,false,false,false] rfl rfl (any_of HT_.out (by kernel_rfl)) (fun _ _ _ h=>h) (Or.inl ⟨by rfl,?_⟩) ?_ ?_;rotate_left
              ·intro w';go_simp;with_reducible rfl
              rotate_left
              ·simp only [Act.put,zS1,zS2,zS3,i64_w,i32_w];rfl
              refine pure_ (i:=1) (N:=some 44) (v:=?_) (a':=?_) #[true,true,false,false,false,false,false,false,false,false,false,false] rfl rfl (any_of HT_.out (by kernel_rfl)) (fun _ _ _ h=>h) (Or.inl ⟨by rfl,?_⟩) ?_ ?_;rotate_left
              ·intro w';go_simp;with_reducible rfl
              rotate_left
              ·simp only [Act.put,zS1,zS2,zS3,i64_w,i32_w];rfl
              refine pure_ (i:=2) (N:=some 45) (v:=?_) (a':=?_) #[true,true,true,false,false,false,false,false,false,false,false,false] rfl rfl (any_of HT_.out (by kernel_rfl)) (fun _ _ _ h=>h) (Or.inl ⟨by rfl,?_⟩) ?_ ?_;rotate_left
              ·intro w';go_simp;with_reducible rfl
              rotate_left
              ·simp only [Act.put,zS1,zS2,zS3,i64_w,i32_w];rfl
              refine pure_ (i:=3) (N:=some 46) (v:=?_) (a':=?_) #[true,true,true,true,false,false,false,false,false,false,false,false] rfl rfl (any_of HT_.out (by kernel_rfl)) (fun _ _ _ h=>h) (Or.inl ⟨by rfl,?_⟩) ?_ ?_;rotate_left
              ·intro w';go_simp;with_reducible rfl
              rotate_left
              ·simp only [Act.put,zS1,zS2,zS3,i64_w,i32_w];rfl
              refine pure_ (i:=5) (N:=some 48) (v:=?_) (a':=?_) #[true,true,true,true,false,true,false,false,false,false,false,false] rfl rfl (any_of HT_.out (by kernel_rfl)) (fun _ _ _ h=>h) (Or.inl ⟨by rfl,?_⟩) ?_ ?_;rotate_left
              ·intro w';go_simp;with_reducible rfl
              rotate_left
              ·simp only [Act.put,zS1,zS2,zS3,i64_w,i32_w];rfl
              refine pure_ (i:=6) (N:=some 49) (v:=?_) (a':=?_) #[true,true,true,true,false,true,true,false,false,false,false,false] rfl rfl (any_of HT_.out (by kernel_rfl)) (fun _ _ _ h=>h) (Or.inl ⟨by rfl,?_⟩) ?_ ?_;rotate_left
              ·intro w';go_simp;with_reducible rfl
              rotate_left
              ·simp only [Act.put,zS1,zS2,zS3,i64_w,i32_w];rfl
              refine pure_ (i:=7) (N:=some 50) (v:=?_) (a':=?_) #[true,true,true,true,false,true,true,true,false,false,false,false] rfl rfl (any_of HT_.out (by kernel_rfl)) (fun _ _ _ h=>h) (Or.inl ⟨by rfl,?_⟩) ?_ ?_;rotate_left
              ·intro w';go_simp;with_reducible rfl
              rotate_left
              ·simp only [Act.put,zS1,zS2,zS3,i64_w,i32_w];rfl
              refine pure_ (i:=8) (N:=some 51) (v:=?_) (a':=?_) #[true,true,true,true,false,true,true,true,true,false,false,false] rfl rfl (any_of HT_.out (by kernel_rfl)) (fun _ _ _ h=>h) (Or.inl ⟨by rfl,?_⟩) ?_ ?_;rotate_left
              ·intro w';go_simp;with_reducible rfl
              rotate_left
              ·simp only [Act.put,zS1,zS2,zS3,i64_w,i32_w];rfl
              refine pure_ (i:=9) (N:=some 52) (v:=?_) (a':=?_) #[true,true,true,true,false,true,true,true,true,true,false,false] rfl rfl (any_of HT_.out (by kernel_rfl)) (fun _ _ _ h=>h) (Or.inl ⟨by rfl,?_⟩) ?_ ?_;rotate_left
              ·intro w';go_simp;with_reducible rfl
              rotate_left
              ·simp only [Act.put,zS1,zS2,zS3,i64_w,i32_w];rfl
              refine one_ (i:=4) (N:=some 47) #[true,true,true,true,true,true,true,true,true,true,false,false] rfl rfl (one_of HT_.out (by kernel_rfl)) (by decide) (fun K hK=>?_);refine goes_ Try.func53 (by kernel_rfl) rfl #[.int .i64 (wrap64 (x7_1 + (wrap64 ((Int.tmod (wrap64 (bt a0 x9_1)) 128) * x8_1))))] (by rfl) rfl rfl (by (try simp only [List.map_toArray,List.map_cons,List.map_nil]);first | done | rfl | (simp only [List.length_drop,List.length_take];rfl)) ?_;with_reducible refine (spec_l01Var.calls kj4 (wrap64 (x7_1 + (wrap64 ((Int.tmod (wrap64 (bt a0 x9_1)) 128) * x8_1)))) t662 _ A15.out).mono ?_
              rintro e w21 ⟨rfl,hb⟩;refine ⟨_,rfl,?_⟩;have n0_:=zMk (below_step (hs HB) hb);clear HB;have HB:=n0_;clear n0_
              (try clear hb)
              (try clear hb2)
              (try clear hk)
              (try clear hi)
              refine hK.out _ _ trivial (fun hHeld=>?_);clear hK K;refine norm_ (a':=?_) ?_ ?_;rotate_left
              ·show Act.put _ (some 47) _ = _;simp only [Act.put,zS1,zS2,zS3,i64_w,i32_w];rfl
              refine pure_ (i:=10) (N:=some 53) (v:=?_) (a':=?_) #[true,true,true,true,true,true,true,true,true,true,true,false] rfl rfl (any_of HT_.out (by kernel_rfl)) (fun _ _ _ h=>h) (Or.inl ⟨by rfl,?_⟩) ?_ ?_;rotate_left
              ·intro w';go_simp;with_reducible rfl
              rotate_left
              ·simp only [Act.put,zS1,zS2,zS3,i64_w,i32_w];rfl
              refine pure_ (i:=11) (N:=some 54) (v:=?_) (a':=?_) #[true,true,true,true,true,true,true,true,true,true,true,true] rfl rfl (any_of HT_.out (by kernel_rfl)) (fun _ _ _ h=>h) (Or.inl ⟨by rfl,?_⟩) ?_ ?_;rotate_left
              ·intro w';go_simp;with_reducible rfl
              rotate_left
              ·simp only [Act.put,zS1,zS2,zS3,i64_w,i32_w];rfl
              refine done_ (done_of HT_.out (by kernel_rfl)) ?_
              try go_wp2
              go_ret3
              exact ⟨by first | rfl | (simp [errW_none,errW_some] <;> rfl) | (simp [*,errW_none,errW_some] <;> rfl),hs HB⟩
             rw [if_neg c19] at H;have c19b0 : (t662.toList == (a0.extract (a1 : Int).toNat ((wrap64 (x9_1 + 1)) : Int).toNat).toList) = false:=beq_eq_false_iff_ne.mpr c19;have c19b1 : (t662.toList != (a0.extract (a1 : Int).toNat ((wrap64 (x9_1 + 1)) : Int).toNat).toList) = true:=bne_iff_ne.mpr c19;simp only [Option.some.injEq,Prod.mk.injEq] at H;obtain ⟨rfl,rfl,rfl⟩:=H;have p10 : 0 ≤ (x9_1 : Int):=zDe (by first | (with_reducible assumption) | assumption);have q10 : x9_1 < (a0.size : Int):=zDe (by first | (with_reducible assumption) | assumption);have hx10:=bt_at a0 x9_1;replace p10:=eq_true p10;replace q10:=eq_true q10;have p11 : 0 ≤ (x9_1 : Int):=zDe (by first | (with_reducible assumption) | assumption);have q11 : x9_1 < (a0.size : Int):=zDe (by first | (with_reducible assumption) | assumption);have hx11:=bt_at a0 x9_1;replace p11:=eq_true p11;replace q11:=eq_true q11
             try go_wp2
             have n0_:=zMk (below_drew1 HB.out);clear HB;have HB:=n0_;clear n0_;refine start_ (n:=12) (S:=fun w'=>True) (ds:=[]) #[false,false,false,false,false,false,false,false,false,false,false,false] (by kernel_rfl) rfl rfl trivial (fun hHeld=>?_);refine with_tabW spec_ReadVar.tab11 spec_ReadVar.bits11 (fun HT_ HW_=>?_);generalize wc.drew = w22 at HB hHeld ⊢;refine pure_ (i:=0) (N:=some 43) (v:=?_) (a':=?_) #[true,false,false,false,false,false,false,false,false,false,false,false] rfl rfl (any_of HT_.out (by kernel_rfl)) (fun _ _ _ h=>h) (Or.inl ⟨by rfl,?_⟩) ?_ ?_;rotate_left
             ·intro w';go_simp;with_reducible rfl
             rotate_left
             ·simp only [Act.put,zS1,zS2,zS3,i64_w,i32_w];rfl
             refine pure_ (i:=1) (N:=some 44) (v:=?_) (a':=?_) #[true,true,false,false,false,false,false,false,false,false,false,false] rfl rfl (any_of HT_.out (by kernel_rfl)) (fun _ _ _ h=>h) (Or.inl ⟨by rfl,?_⟩) ?_ ?_;rotate_left
             ·intro w';go_simp;with_reducible rfl
             rotate_left
             ·simp only [Act.put,zS1,zS2,zS3,i64_w,i32_w];rfl
             refine pure_ (i:=2) (N:=some 45) (v:=?_) (a':=?_) #[true,true,true,false,false,false,false,false,false,false,false,false] rfl rfl (any_of HT_.out (by kernel_rfl)) (fun _ _ _ h=>h) (Or.inl ⟨by rfl,?_⟩) ?_ ?_;rotate_left
             ·intro w';go_simp;with_reducible rfl
             rotate_left
             ·simp only [Act.put,zS1,zS2,zS3,i64_w,i32_w];rfl
             refine pure_ (i:=3) (N:=some 46) (v:=?_) (a':=?_) #[true,true,true,true,false,false,false,false,false,false,false,false] rfl rfl (any_of HT_.out (by kernel_rfl)) (fun _ _ _ h=>h) (Or.inl ⟨by rfl,?_⟩) ?_ ?_;rotate_left
             ·intro w';go_simp;with_reducible rfl
             rotate_left
             ·simp only [Act.put,zS1,zS2,zS3,i64_w,i32_w];rfl
             refine pure_ (i:=5) (N:=some 48) (v:=?_) (a':=?_) #[true,true,true,true,false,true,false,false,false,false,false,false] rfl rfl (any_of HT_.out (by kernel_rfl)) (fun _ _ _ h=>h) (Or.inl ⟨by rfl,?_⟩) ?_ ?_;rotate_left
             ·intro w';go_simp;with_reducible rfl
             rotate_left
             ·simp only [Act.put,zS1,zS2,zS3,i64_w,i32_w];rfl
             refine pure_ (i:=6) (N:=some 49) (v:=?_) (a':=?_) #[true,true,true,true,false,true,true,false,false,false,false,false] rfl rfl (any_of HT_.out (by kernel_rfl)) (fun _ _ _ h=>h) (Or.inl ⟨by rfl,?_⟩) ?_ ?_;rotate_left
             ·intro w';go_simp;with_reducible rfl
             rotate_left
             ·simp only [Act.put,zS1,zS2,zS3,i64_w,i32_w];rfl
             refine pure_ (i:=7) (N:=some 50) (v:=?_) (a':=?_) #[true,true,true,true,false,true,true,true,false,false,false,false] rfl rfl (any_of HT_.out (by kernel_rfl)) (fun _ _ _ h=>h) (Or.inl ⟨by rfl,?_⟩) ?_ ?_;rotate_left
             ·intro w';go_simp;with_reducible rfl
             rotate_left
             ·simp only [Act.put,zS1,zS2,zS3,i64_w,i32_w];rfl
             refine pure_ (i:=8) (N:=some 51) (v:=?_) (a':=?_) #[true,true,true,true,false,true,true,true,true,false,false,false] rfl rfl (any_of HT_.out (by kernel_rfl)) (fun _ _ _ h=>h) (Or.inl ⟨by rfl,?_⟩) ?_ ?_;rotate_left
             ·intro w';go_simp;with_reducible rfl
             rotate_left
             ·simp only [Act.put,zS1,zS2,zS3,i64_w,i32_w];rfl
             refine pure_ (i:=9) (N:=some 52) (v:=?_) (a':=?_) #[true,true,true,true,false,true,true,true,true,true,false,false] rfl rfl (any_of HT_.out (by kernel_rfl)) (fun _ _ _ h=>h) (Or.inl ⟨by rfl,?_⟩) ?_ ?_;rotate_left
             ·intro w';go_simp;with_reducible rfl
             rotate_left
             ·simp only [Act.put,zS1,zS2,zS3,i64_w,i32_w];rfl
             refine one_ (i:=4) (N:=some 47) #[true,true,true,true,true,true,true,true,true,true,false,false] rfl rfl (one_of HT_.out (by kernel_rfl)) (by decide) (fun K hK=>?_);refine goes_ Try.func53 (by kernel_rfl) rfl #[.int .i64 (wrap64 (x7_1 + (wrap64 ((Int.tmod (wrap64 (bt a0 x9_1)) 128) * x8_1))))] (by rfl) rfl rfl (by (try simp only [List.map_toArray,List.map_cons,List.map_nil]);first | done | rfl | (simp only [List.length_drop,List.length_take];rfl)) ?_;with_reducible refine (spec_l01Var.calls kj4 (wrap64 (x7_1 + (wrap64 ((Int.tmod (wrap64 (bt a0 x9_1)) 128) * x8_1)))) t662 _ A15.out).mono ?_
             rintro e w23 ⟨rfl,hb⟩;refine ⟨_,rfl,?_⟩;have n0_:=zMk (below_step (hs HB) hb);clear HB;have HB:=n0_;clear n0_
             (try clear hb)
             (try clear hb2)
             (try clear hk)
             (try clear hi)
             refine hK.out _ _ trivial (fun hHeld=>?_);clear hK K;refine norm_ (a':=?_) ?_ ?_;rotate_left
             ·show Act.put _ (some 47) _ = _;simp only [Act.put,zS1,zS2,zS3,i64_w,i32_w];rfl
             refine pure_ (i:=10) (N:=some 53) (v:=?_) (a':=?_) #[true,true,true,true,true,true,true,true,true,true,true,false] rfl rfl (any_of HT_.out (by kernel_rfl)) (fun _ _ _ h=>h) (Or.inl ⟨by rfl,?_⟩) ?_ ?_;rotate_left
             ·intro w';go_simp;with_reducible rfl
             rotate_left
             ·simp only [Act.put,zS1,zS2,zS3,i64_w,i32_w];rfl
             refine pure_ (i:=11) (N:=some 54) (v:=?_) (a':=?_) #[true,true,true,true,true,true,true,true,true,true,true,true] rfl rfl (any_of HT_.out (by kernel_rfl)) (fun _ _ _ h=>h) (Or.inl ⟨by rfl,?_⟩) ?_ ?_;rotate_left
             ·intro w';go_simp;with_reducible rfl
             rotate_left
             ·simp only [Act.put,zS1,zS2,zS3,i64_w,i32_w];rfl
             refine done_ (done_of HT_.out (by kernel_rfl)) ?_
             try go_wp2
             go_ret3
             exact ⟨by first | rfl | (simp [errW_none,errW_some] <;> rfl) | (simp [*,errW_none,errW_some] <;> rfl),hs HB⟩
            rw [if_neg c18] at H;exact absurd H (by simp)
           rw [if_neg c17] at H;exact absurd H (by simp)
          rw [if_neg c16] at H;exact absurd H (by simp)
         rw [if_neg c12] at H;have c12b0 : decide ((bt a0 x9_1) < 128) = false:=decide_eq_false c12;clear c12;have H':=zMk H;clear H;have p10 : 0 ≤ (x9_1 : Int):=zDe (by first | (with_reducible assumption) | assumption);have q10 : x9_1 < (a0.size : Int):=zDe (by first | (with_reducible assumption) | assumption);have hx10:=bt_at a0 x9_1;replace p10:=eq_true p10;replace q10:=eq_true q10;have p11 : 0 ≤ (x9_1 : Int):=zDe (by first | (with_reducible assumption) | assumption);have q11 : x9_1 < (a0.size : Int):=zDe (by first | (with_reducible assumption) | assumption);have hx11:=bt_at a0 x9_1;replace p11:=eq_true p11;replace q11:=eq_true q11
         go_wp2
         go_roundg kj4;case measure=>have:=HK1.out;have:=HJ4.out;omega
         case rel=>exact ⟨(wrap64 (x7_1 + (wrap64 ((Int.tmod (wrap64 (bt a0 x9_1)) 128) * x8_1)))),(wrap64 (x8_1 * 128)),(wrap64 (x9_1 + 1)),(by first | rfl | (simp;done) | (simp [*];done)),(by first | rfl | (simp;done) | (simp [*];done)),(by first | rfl | (simp;done) | (simp [*];done)),H',⟨by have:=HK1.out;have:=HJ4.out;omega⟩,⟨hs HB⟩⟩
        rw [if_neg c9] at H;exact absurd H (by simp)
       rw [if_neg c8] at H;exact absurd H (by simp)
      replace c7:=Bool.eq_false_iff.mpr c7;subst c7;have H1 : (some (0,0,false)) = some (r1,r2,r3):=by rw [if_neg (show ¬ (false = true) by decide)] at H;exact H
      clear H;have H:=H1;clear H1;simp only [Option.some.injEq,Prod.mk.injEq] at H;obtain ⟨rfl,rfl,rfl⟩:=H
      go_wp2
      go_ret3
      exact ⟨by first | rfl | (simp [errW_none,errW_some] <;> rfl) | (simp [*,errW_none,errW_some] <;> rfl),hs HB⟩
 replace c4:=Bool.eq_false_iff.mpr c4;subst c4;have H1 : (some (0,0,false)) = some (r1,r2,r3):=by rw [if_neg (show ¬ (false = true) by decide)] at H;exact H
 clear H;have H:=H1;clear H1;simp only [Option.some.injEq,Prod.mk.injEq] at H;obtain ⟨rfl,rfl,rfl⟩:=H
 go_enter Try.func80,Try.ntmps80
 go_wp2_with (first | ((with_reducible refine gate_callee (f:=34) rfl ?_);refine goesL_ (some 13) rfl rfl Try.func34 (by kernel_rfl) rfl #[.int .i64 a1,.int .i64 0,.int .i64 (a0.size : Int)] rfl (by (try simp only [List.map_toArray,List.map_cons,List.map_nil]);first | done | rfl | (simp only [List.length_drop,List.length_take];rfl)) ?_;(with_reducible refine (spec_l01In.calls a1 0 (a0.size : Int) false _ A3.out).mono ?_);rintro e w' ⟨rfl,⟨nd,rfl⟩⟩;refine ⟨_,rfl,?_⟩))
 go_ret3
 exact ⟨by first | rfl | (simp [errW_none,errW_some] <;> rfl) | (simp [*,errW_none,errW_some] <;> rfl),hs HB⟩
end Go.Proofs.Ytodokejcmbjpbaa.PK

/- A number read from bytes, as one function; the program's and the reference's ReadVar tell it, and it reads what VarText writes. -/
namespace Go.Proofs.Ytodokejcmbjpbaa.Pu
open Go.RowKit Go.Proofs.Ytodokejcmbjpbaa.PK Go.Proofs.YtodokejcmbjpbaaW.PrintWords
/-- A text's bytes. -/
def byt (t : ByteArray) : List Nat := t.data.toList.map UInt8.toNat
theorem byt_len (t : ByteArray) : (byt t).length = t.size := by unfold byt; rw [List.length_map, Array.length_toList]; rfl
theorem bt_byt (t : ByteArray) (i : Nat) : bt t (i : Int) = (((byt t).getD i 0 : Nat) : Int) := by
  unfold bt
  by_cases h : i < t.size
  · rw [dif_pos (show ((i : Int)).toNat < t.size from h)]
    rw [List.getD_eq_getElem?_getD, List.getElem?_eq_getElem (by rw [byt_len]; exact h)]
    unfold byt
    rw [List.getElem_map, Array.getElem_toList]
    rfl
  · rw [dif_neg (show ¬ ((i : Int)).toNat < t.size from h), List.getD_eq_getElem?_getD, List.getElem?_eq_none (by rw [byt_len]; omega)]; rfl
theorem byt_lt (t : ByteArray) : ∀ b ∈ byt t, b < 256 := by
  intro b hb
  obtain ⟨x, _, rfl⟩ := List.mem_map.1 hb
  exact UInt8.toNat_lt x
theorem byt_get_lt (t : ByteArray) (i : Nat) : (byt t).getD i 0 < 256 := by
  by_cases h : i < (byt t).length
  · exact byt_lt t _ (getD_mem' h)
  · rw [List.getD_eq_getElem?_getD, List.getElem?_eq_none (by omega)]; exact by decide
theorem byt_inj {s t : ByteArray} (h : byt s = byt t) : s = t := by
  unfold byt at h
  have h2 := (List.map_inj_right (fun a b e => UInt8.toNat_inj.1 e)).1 h
  have h3 := Array.toList_inj.1 h2
  cases s; cases t; simp only at h3; rw [h3]
theorem byt_app (s t : ByteArray) : byt (s ++ t) = byt s ++ byt t := by
  unfold byt
  rw [show (s ++ t).data = s.data ++ t.data from ByteArray.data_append, Array.toList_append, List.map_append]
theorem byt_empty : byt ⟨#[]⟩ = [] := rfl
theorem byt_str (l : List Int) (h : ∀ x ∈ l, 0 ≤ x ∧ x < 256) : byt (strOfNums l) = l.map Int.toNat := by
  unfold byt strOfNums
  rw [List.map_map]
  refine List.map_congr_left fun x hx => ?_
  have := h x hx
  show (UInt8.ofNat x.toNat).toNat = x.toNat
  rw [UInt8.toNat_ofNat']
  omega
theorem byt_sub (t : ByteArray) (a b : Nat) : byt (t.extract a b) = ((byt t).drop a).take (b - a) := by
  unfold byt
  rw [ByteArray.data_extract, Array.toList_extract, List.extract_eq_take_drop, List.map_take, List.map_drop]
theorem toList_iff (s t : ByteArray) : s.toList = t.toList ↔ byt s = byt t := by
  rw [ByteArray.toList_eq, ByteArray.toList_eq]
  constructor
  · intro h; unfold byt; rw [h]
  · intro h; rw [byt_inj h]

theorem varL_byte (n : Nat) : ∀ y ∈ varL n, 0 ≤ y ∧ y < 256 := by
  induction n using Nat.strongRecOn with
  | _ n ih =>
    intro y hy
    by_cases hn : n > 127
    · rw [varL_long hn] at hy
      rcases List.mem_cons.1 hy with hy | hy
      · omega
      · exact ih (n / 128) (by omega) y hy
    · rw [varL_short hn] at hy
      obtain rfl := List.mem_singleton.1 hy
      omega
/-- The number that bytes mean. -/
def valB : List Nat → Nat
  | [] => 0
  | b :: r => b % 128 + 128 * valB r
theorem val_snoc : ∀ (l : List Nat) (x : Nat), valB (l ++ [x]) = valB l + x % 128 * 128 ^ l.length
  | [], x => by simp [valB]
  | b :: r, x => by
    show b % 128 + 128 * valB (r ++ [x]) = b % 128 + 128 * valB r + x % 128 * 128 ^ (r.length + 1)
    rw [val_snoc r x, Nat.mul_add, Nat.pow_succ, ← Nat.add_assoc]
    congr 1
    rw [Nat.mul_comm 128, Nat.mul_assoc]
theorem val_lt : ∀ l : List Nat, valB l < 128 ^ l.length
  | [] => by decide
  | b :: r => by
    have := val_lt r
    show b % 128 + 128 * valB r < 128 ^ (r.length + 1)
    rw [Nat.pow_succ]
    omega
theorem val_pos : ∀ (pre : List Nat) {x : Nat}, x < 128 → x ≠ 0 → 1 ≤ valB (pre ++ [x])
  | [], x, h, h0 => by show 1 ≤ x % 128 + 128 * 0; omega
  | b :: r, x, h, h0 => by
    have := val_pos r h h0
    show 1 ≤ b % 128 + 128 * valB (r ++ [x])
    omega
theorem canon1 : ∀ (pre : List Nat) {x : Nat}, (∀ b ∈ pre, 128 ≤ b ∧ b < 256) → x < 128 → (pre = [] ∨ x ≠ 0) → varL (valB (pre ++ [x])) = (pre ++ [x]).map fun b : Nat => (b : Int)
  | [], x, _, hx, _ => by
    have e : valB ([] ++ [x]) = x := by show x % 128 + 128 * 0 = x; omega
    rw [e, varL_short (by omega)]; rfl
  | b :: r, x, h, hx, h0 => by
    have hx0 : x ≠ 0 := by
      rcases h0 with h0 | h0
      · cases h0
      · exact h0
    have hp := val_pos r hx hx0
    have hb := h b List.mem_cons_self
    have e : valB (b :: r ++ [x]) = b % 128 + 128 * valB (r ++ [x]) := rfl
    rw [e, varL_long (by omega), show (b % 128 + 128 * valB (r ++ [x])) / 128 = valB (r ++ [x]) by omega, canon1 r (fun c hc => h c (List.mem_cons_of_mem _ hc)) hx (.inr hx0)]
    have e3 : (((b % 128 + 128 * valB (r ++ [x])) % 128 + 128 : Nat) : Int) = (b : Int) := by omega
    rw [e3]; rfl
theorem varL_zero {n : Nat} (h : varL n = [0]) : n = 0 := by
  by_cases hn : n > 127
  · rw [varL_long hn] at h
    have h1 := congrArg List.length h
    have h2 := (varL_len n (n / 128) (by
      have : n < 128 ^ n := Nat.lt_pow_self (by decide)
      rw [Nat.pow_succ]; omega)).2
    simp only [List.length_cons, List.length_nil] at h1
    omega
  · rw [varL_short hn] at h
    injection h with h1
    omega
theorem canon2 : ∀ (n : Nat) (l : List Int), varL n = l ++ [0] → l = [] := by
  intro n
  induction n using Nat.strongRecOn with
  | _ n ih =>
    intro l h
    by_cases hn : n > 127
    · rw [varL_long hn] at h
      cases l with
      | nil => rfl
      | cons c l =>
        injection h with h1 h2
        have := ih (n / 128) (by omega) l h2
        subst this
        have := varL_zero h2
        omega
    · rw [varL_short hn] at h
      cases l with
      | nil => rfl
      | cons c l =>
        injection h with h1 h2
        have := congrArg List.length h2
        simp at this
/-- A number read from bytes: the number, and how many bytes. -/
def rvL : List Nat → Nat → Nat → Nat → Option (Nat × Nat)
  | _, 0, _, _ => none
  | [], _ + 1, _, _ => none
  | x :: r, d + 1, k, n => if x ≥ 128 then rvL r d (k + 1) (n + x % 128 * 128 ^ k) else if (x = 0 ∧ k > 0) ∨ n + x % 128 * 128 ^ k > 1000000000 then none else some (n + x % 128 * 128 ^ k, k + 1)
def rvRes (a : Int) : Option (Nat × Nat) → Int × Int × Bool
  | none => (0, 0, false)
  | some z => ((z.1 : Int), a + (z.2 : Int), true)
def rvB (t : ByteArray) (a : Int) : Int × Int × Bool := if 0 ≤ a ∧ a ≤ (t.size : Int) then rvRes a (rvL ((byt t).drop a.toNat) 5 0 0) else (0, 0, false)
theorem drop_byt {t : ByteArray} {i : Nat} (h : i < t.size) : (byt t).drop i = (byt t).getD i 0 :: (byt t).drop (i + 1) := by
  rw [List.drop_eq_getElem_cons (by rw [byt_len]; exact h), List.getD_eq_getElem?_getD, List.getElem?_eq_getElem (by rw [byt_len]; exact h)]; rfl
theorem shl7 {x k : Nat} (hx : x < 128) (hk : k < 5) : shl .i64 (x : Int) (wrap64 (7 * (k : Int))) = ((x * 128 ^ k : Nat) : Int) := by
  have e : wrap64 (7 * (k : Int)) = 7 * (k : Int) := w64 (by omega) (by omega)
  rw [e]
  have h := shl_small (k := .i64) (x := (x : Int)) (y := 7 * (k : Int)) rfl (by show (7 * (k : Int)) ≤ ((IntKind.bits .i64 : Nat) : Int); rw [show IntKind.bits .i64 = 64 from rfl]; omega)
  rw [← h, show (7 * (k : Int)).toNat = 7 * k by omega]
  have p : (128 : Nat) ^ k = 2 ^ (7 * k) := by rw [Nat.pow_mul]
  have q : (128 : Nat) ^ k ≤ 128 ^ 4 := Nat.pow_le_pow_right (by decide) (by omega)
  have e2 : (x : Int) * 2 ^ (7 * k) = ((x * 128 ^ k : Nat) : Int) := by rw [p]; push_cast; rfl
  rw [e2, Go.IntKind.wrap_i64]
  have : x * 128 ^ k ≤ 127 * 128 ^ 4 := Nat.mul_le_mul (by omega) q
  omega
theorem tmod128 (x : Nat) : Int.tmod (wrap64 ((x : Nat) : Int)) 128 = (((if x < 9223372036854775808 then x % 128 else 0 : Nat)) : Int) ∨ 9223372036854775808 ≤ x := by
  by_cases h : x < 9223372036854775808
  · left; rw [if_pos h, w64 (by omega) (by omega), Int.tmod_eq_emod_of_nonneg (by omega)]; omega
  · right; omega
theorem tmod128' {x : Nat} (h : x < 256) : Int.tmod (wrap64 ((x : Nat) : Int)) 128 = ((x % 128 : Nat) : Int) := by
  rw [w64 (by omega) (by omega), Int.tmod_eq_emod_of_nonneg (by omega)]; omega
theorem pow5 {k : Nat} (h : k ≤ 5) : (128 : Nat) ^ k ≤ 34359738368 := Nat.le_trans (Nat.pow_le_pow_right (by decide) h) (by decide)
theorem step_lt {n x k : Nat} (hn : n < 128 ^ k) : n + x % 128 * 128 ^ k < 128 ^ (k + 1) := by
  rw [Nat.pow_succ]
  have : x % 128 * 128 ^ k ≤ 127 * 128 ^ k := Nat.mul_le_mul_right _ (by omega)
  omega
theorem rvL_zero (l : List Nat) (k n : Nat) : rvL l 0 k n = none := by cases l <;> rfl
theorem rvL_nil (d k n : Nat) : rvL [] d k n = none := by cases d <;> rfl
theorem rvL_cons (x : Nat) (r : List Nat) (d k n : Nat) : rvL (x :: r) (d + 1) k n = if x ≥ 128 then rvL r d (k + 1) (n + x % 128 * 128 ^ k) else if (x = 0 ∧ k > 0) ∨ n + x % 128 * 128 ^ k > 1000000000 then none else some (n + x % 128 * 128 ^ k, k + 1) := by rw [rvL]
theorem res_some {a : Int} {M k : Nat} {b : Int} (h : b = a + ((k + 1 : Nat) : Int)) : some ((M : Int), b, true) = some (rvRes a (some (M, k + 1))) := by subst h; rfl
theorem iRV_step (K : Nat) (t : ByteArray) (a k n x M : Nat) (hs : t.size ≤ 1099511627776) (hk : k < 5) (hlt : a + k < t.size) (hx : x < 256) (eb : bt t ((a + k : Nat) : Int) = (x : Int)) (hM : n + x % 128 * 128 ^ k = M) (hM2 : M ≤ 34359738368) :
    impl_ReadVar.j1 (K + 1) t (a : Int) (n : Int) (k : Int) true = if x ≥ 128 then impl_ReadVar.l0 K t (a : Int) (M : Int) ((k + 1 : Nat) : Int) else some (rvRes (a : Int) (if (x = 0 ∧ k > 0) ∨ M > 1000000000 then none else some (M, k + 1))) := by
  have en : wrap64 ((n : Int) + shl .i64 (Int.tmod (wrap64 ((x : Nat) : Int)) 128) (wrap64 (7 * (k : Int)))) = (M : Int) := by
    rw [tmod128' hx, shl7 (by omega) hk, w64 (by omega) (by omega)]; omega
  have ea : wrap64 ((a : Int) + (k : Int)) = ((a + k : Nat) : Int) := by rw [w64 (by omega) (by omega)]; omega
  have wx : wrap64 ((x : Nat) : Int) = (x : Int) := w64 (by omega) (by omega)
  have e7 : (0 : Int) ≤ wrap64 (7 * (k : Int)) := by rw [w64 (by omega) (by omega)]; omega
  clear hM
  rw [wx] at en
  simp only [impl_ReadVar.j1, ea, eb, en, wx, if_true, if_pos (show (0 : Int) ≤ ((a + k : Nat) : Int) by omega), if_pos (show ((a + k : Nat) : Int) < (t.size : Int) by omega), if_pos e7, wsucc (n := 5) hk (by omega), wsucc (n := t.size) hlt (by omega)]
  by_cases h1 : x ≥ 128
  · rw [if_pos (by omega), if_pos h1]
  · rw [if_neg (by omega), if_neg h1]
    by_cases h4 : M > 1000000000
    · rw [if_pos (show (x = 0 ∧ k > 0) ∨ M > 1000000000 from .inr h4)]
      by_cases h2 : (x : Int) = 0
      · rw [if_pos h2]
        by_cases h3 : (k : Int) > 0
        · rw [if_pos h3]; rfl
        · rw [if_neg h3, if_pos (by omega)]; rfl
      · rw [if_neg h2, if_pos (by omega)]; rfl
    · by_cases h2 : (x : Int) = 0
      · rw [if_pos h2]
        by_cases h3 : (k : Int) > 0
        · rw [if_pos h3, if_pos (show (x = 0 ∧ k > 0) ∨ M > 1000000000 from .inl ⟨by omega, by omega⟩)]; rfl
        · rw [if_neg h3, if_neg (by omega), if_neg (by omega)]
          exact res_some (by omega)
      · rw [if_neg h2, if_neg (by omega), if_neg (by omega)]
        exact res_some (by omega)
theorem iReadVar_ev (t : ByteArray) (a : Int) (hs : t.size ≤ 1099511627776) (ha : a ≤ (t.size : Int)) : Ev (fun k => impl_ReadVar.f k t a) (rvB t a) := by
  unfold impl_ReadVar.f rvB
  by_cases h0 : 0 ≤ a
  · rw [if_pos ⟨h0, ha⟩]
    obtain ⟨a, rfl⟩ : ∃ m : Nat, a = (m : Int) := ⟨a.toNat, by omega⟩
    rw [Int.toNat_natCast]
    have main : ∀ (d k n : Nat), k + d = 5 → n < 128 ^ k → Ev (fun K => impl_ReadVar.l0 K t (a : Int) (n : Int) (k : Int)) (rvRes (a : Int) (rvL ((byt t).drop (a + k)) d k n)) := by
      intro d
      induction d with
      | zero =>
        intro k n hk hn
        rw [rvL_zero]
        refine Ev.step (f := fun K => impl_ReadVar.j1 K t (a : Int) (n : Int) (k : Int) false) (fun K => by simp only [impl_ReadVar.l0]; rw [if_neg (by omega)]) (ev_some fun K => ?_)
        simp only [impl_ReadVar.j1]
        rfl
      | succ d ih =>
        intro k n hk hn
        refine Ev.step (f := fun K => impl_ReadVar.j1 K t (a : Int) (n : Int) (k : Int) (decide ((a + k : Nat) < t.size))) (fun K => ?_) ?_
        · simp only [impl_ReadVar.l0]
          rw [if_pos (by omega), if_pos (by omega), w64 (x := (t.size : Int) - k) (by omega) (by omega)]
          congr 1
          exact decide_eq_decide.2 (by omega)
        · by_cases hlt : a + k < t.size
          · rw [decide_eq_true hlt, drop_byt hlt, rvL_cons]
            have hx := byt_get_lt t (a + k)
            have eb := bt_byt t (a + k)
            generalize (byt t).getD (a + k) 0 = x at hx eb ⊢
            have sl := step_lt (x := x) hn
            have p6 := pow5 (show k + 1 ≤ 5 by omega)
            have st := fun K => iRV_step K t a k n x _ hs (by omega) hlt hx eb rfl (by omega)
            by_cases h1 : x ≥ 128
            · rw [if_pos h1]
              exact Ev.step (fun K => by rw [st K, if_pos h1]) (ih (k + 1) _ (by omega) sl)
            · rw [if_neg h1]
              exact ev_some fun K => by rw [st K, if_neg h1]
          · rw [decide_eq_false hlt, List.drop_eq_nil_of_le (by rw [byt_len]; omega), rvL_nil]
            refine ev_some fun K => ?_
            simp only [impl_ReadVar.j1]
            rfl
    exact main 5 0 0 rfl (by decide)
  · rw [if_neg (fun h => h0 h.1)]
    refine Ev.step (f := fun K => impl_ReadVar.j1 K t a 0 0 false) (fun K => by simp only [impl_ReadVar.l0]; rw [if_pos (by omega), if_neg (by omega)]) (ev_some fun K => ?_)
    simp only [impl_ReadVar.j1]
    rfl
theorem natcast_map {V : List Int} (h : ∀ y ∈ V, 0 ≤ y) : (V.map Int.toNat).map (fun b : Nat => (b : Int)) = V := by
  induction V with
  | nil => rfl
  | cons y V ih =>
    have := h y List.mem_cons_self
    show ((y.toNat : Nat) : Int) :: (V.map Int.toNat).map (fun b : Nat => (b : Int)) = y :: V
    rw [ih fun z hz => h z (List.mem_cons_of_mem _ hz), show ((y.toNat : Nat) : Int) = y by omega]
theorem toNat_map : ∀ l : List Nat, (l.map fun b : Nat => (b : Int)).map Int.toNat = l
  | [] => rfl
  | y :: l => by
    show ((y : Nat) : Int).toNat :: (l.map fun b : Nat => (b : Int)).map Int.toNat = y :: l
    rw [toNat_map l, Int.toNat_natCast]
/-- What the reference holds a number's bytes against. -/
theorem sRV_key {t : ByteArray} {a k x : Nat} {pre : List Nat} (hl : pre.length = k) (es : (byt t).drop a = (pre ++ [x]) ++ (byt t).drop (a + (k + 1))) (hb : ∀ b ∈ pre, 128 ≤ b ∧ b < 256) (hx : x < 128) :
    (strOfNums (varL (valB (pre ++ [x])))).toList = (t.extract a (a + k + 1)).toList ↔ (pre = [] ∨ x ≠ 0) := by
  have seg : byt (t.extract a (a + k + 1)) = pre ++ [x] := by
    rw [byt_sub, es, show a + k + 1 - a = (pre ++ [x]).length by simp; omega, List.take_left]
  have vb := varL_byte (valB (pre ++ [x]))
  rw [toList_iff, seg, byt_str _ vb]
  constructor
  · intro h
    by_cases h0 : x = 0
    · left
      subst h0
      have e2 := congrArg (List.map fun b : Nat => (b : Int)) h
      rw [natcast_map fun y hy => (vb y hy).1] at e2
      rw [List.map_append] at e2
      exact List.map_eq_nil_iff.1 (canon2 _ _ e2)
    · exact .inr h0
  · intro h
    rw [canon1 pre hb hx h, toNat_map]
theorem sRV_step (K : Nat) (t : ByteArray) (a k n x M P : Nat) (hs : t.size ≤ 1099511627776) (hk : k < 5) (hlt : a + k < t.size) (hx : x < 256) (eb : bt t ((a + k : Nat) : Int) = (x : Int)) (hP : 128 ^ k = P) (hM : n + x % 128 * P = M) (hM2 : M ≤ 34359738368) (hP2 : P ≤ 268435456) :
    spec_ReadVar.j1 (K + 1) t (a : Int) (n : Int) (P : Int) ((a + k : Nat) : Int) true = if x ≥ 128 then spec_ReadVar.l0 K t (a : Int) (M : Int) ((P * 128 : Nat) : Int) ((a + (k + 1) : Nat) : Int) else if M > 1000000000 then some (0, 0, false) else (spec_l01Var.f K (M : Int)).bind fun t116 => if t116.toList = (t.extract a (a + k + 1)).toList then some ((M : Int), ((a + k + 1 : Nat) : Int), true) else some (0, 0, false) := by
  have en : wrap64 ((n : Int) + wrap64 (Int.tmod (wrap64 ((x : Nat) : Int)) 128 * (P : Int))) = (M : Int) := by
    rw [tmod128' hx, ← Int.natCast_mul, w64 (x := ((x % 128 * P : Nat) : Int)) (by omega) (by omega), w64 (by omega) (by omega)]; omega
  have ep : wrap64 ((P : Int) * 128) = ((P * 128 : Nat) : Int) := by rw [w64 (by omega) (by omega)]; omega
  clear hM hP
  simp only [spec_ReadVar.j1, eb, en, ep, if_true, if_pos (show (0 : Int) ≤ ((a + k : Nat) : Int) by omega), if_pos (show ((a + k : Nat) : Int) < (t.size : Int) by omega), wsucc (n := t.size) hlt (by omega), Int.toNat_natCast, if_pos (show (0 : Int) ≤ (a : Int) by omega), if_pos (show (a : Int) ≤ ((a + k + 1 : Nat) : Int) by omega), if_pos (show ((a + k + 1 : Nat) : Int) ≤ (t.size : Int) by omega)]
  by_cases h1 : x ≥ 128
  · rw [if_neg (by omega), if_pos h1]; rfl
  · rw [if_pos (by omega), if_neg h1]
    by_cases h4 : M > 1000000000
    · rw [if_pos (by omega), if_pos h4]
    · rw [if_neg (by omega), if_neg h4]
theorem sReadVar_ev (t : ByteArray) (a : Int) (hs : t.size ≤ 1099511627776) : Ev (fun k => spec_ReadVar.f k t a) (rvB t a) := by
  unfold spec_ReadVar.f rvB
  have hin : spec_l01In.f a 0 (t.size : Int) = some (decide (0 ≤ a ∧ a ≤ (t.size : Int))) := by
    unfold spec_l01In.f
    by_cases h1 : a ≥ 0
    · rw [if_pos h1]; congr 1; simp; omega
    · rw [if_neg h1]; congr 1; simp; omega
  simp only [hin, Option.bind_some, decide_eq_true_eq]
  by_cases h0 : 0 ≤ a ∧ a ≤ (t.size : Int)
  · simp only [if_pos h0]
    obtain ⟨a, rfl⟩ : ∃ m : Nat, a = (m : Int) := ⟨a.toNat, by omega⟩
    rw [Int.toNat_natCast]
    have main : ∀ (d k : Nat) (pre : List Nat), k + d = 5 → pre.length = k → (byt t).drop a = pre ++ (byt t).drop (a + k) → (∀ b ∈ pre, 128 ≤ b ∧ b < 256) → Ev (fun K => spec_ReadVar.l0 K t (a : Int) (valB pre : Int) ((128 ^ k : Nat) : Int) ((a + k : Nat) : Int)) (rvRes (a : Int) (rvL ((byt t).drop (a + k)) d k (valB pre))) := by
      intro d
      induction d with
      | zero =>
        intro k pre hk hl hp hb
        rw [rvL_zero]
        refine Ev.step (f := fun K => spec_ReadVar.j1 K t (a : Int) (valB pre : Int) ((128 ^ k : Nat) : Int) ((a + k : Nat) : Int) false) (fun K => ?_) (ev_some fun K => ?_)
        · simp only [spec_ReadVar.l0]
          by_cases h : ((a + k : Nat) : Int) < (t.size : Int)
          · rw [if_pos h, w64 (x := (a : Int) + 5) (by omega) (by omega), decide_eq_false (by omega)]
          · rw [if_neg h]
        · simp only [spec_ReadVar.j1]
          rfl
      | succ d ih =>
        intro k pre hk hl hp hb
        have hn : valB pre < 128 ^ k := hl ▸ val_lt pre
        refine Ev.step (f := fun K => spec_ReadVar.j1 K t (a : Int) (valB pre : Int) ((128 ^ k : Nat) : Int) ((a + k : Nat) : Int) (decide ((a + k : Nat) < t.size))) (fun K => ?_) ?_
        · simp only [spec_ReadVar.l0]
          by_cases h : ((a + k : Nat) : Int) < (t.size : Int)
          · rw [if_pos h, w64 (x := (a : Int) + 5) (by omega) (by omega), decide_eq_true (show ((a + k : Nat) : Int) < (a : Int) + 5 by omega), decide_eq_true (show a + k < t.size by omega)]
          · rw [if_neg h, decide_eq_false (show ¬ a + k < t.size by omega)]
        · by_cases hlt : a + k < t.size
          · rw [decide_eq_true hlt, drop_byt hlt, rvL_cons]
            have hx := byt_get_lt t (a + k)
            have hd := drop_byt hlt
            have eb := bt_byt t (a + k)
            generalize (byt t).getD (a + k) 0 = x at hx eb hd ⊢
            have sl := step_lt (x := x) hn
            have p6 := pow5 (show k + 1 ≤ 5 by omega)
            have q4 : (128 : Nat) ^ k ≤ 268435456 := Nat.le_trans (Nat.pow_le_pow_right (by decide) (show k ≤ 4 by omega)) (by decide)
            have vs : valB (pre ++ [x]) = valB pre + x % 128 * 128 ^ k := by rw [val_snoc, hl]
            have es : (byt t).drop a = (pre ++ [x]) ++ (byt t).drop (a + (k + 1)) := by rw [hp, hd]; simp [Nat.add_assoc]
            rw [← vs] at sl ⊢
            have st := fun K => sRV_step K t a k (valB pre) x (valB (pre ++ [x])) _ hs (by omega) hlt hx eb rfl vs.symm (by omega) q4
            by_cases h1 : x ≥ 128
            · rw [if_pos h1]
              exact Ev.step (fun K => by rw [st K, if_pos h1, ← Nat.pow_succ]) (ih (k + 1) (pre ++ [x]) (by omega) (by simp; omega) es (fun b hb' => by
                rcases List.mem_append.1 hb' with hb' | hb'
                · exact hb b hb'
                · obtain rfl := List.mem_singleton.1 hb'; exact ⟨h1, hx⟩))
            · rw [if_neg h1]
              have key := sRV_key hl es hb (by omega)
              have hv := fun h => l01Var_ev (n := (valB (pre ++ [x]) : Int)) (by omega) h
              rw [Int.toNat_natCast] at hv
              clear vs
              generalize valB (pre ++ [x]) = M at st key hv sl ⊢
              by_cases h4 : M > 1000000000
              · rw [if_pos (.inr h4)]
                exact ev_some fun K => by rw [st K, if_neg h1, if_pos h4]; rfl
              · refine Ev.step (fun K => by rw [st K, if_neg h1, if_neg h4]) (ev_bind (hv (by omega)) ?_)
                by_cases h2 : pre = [] ∨ x ≠ 0
                · rw [if_pos (key.2 h2), if_neg (fun h => by
                    rcases h with ⟨h5, h6⟩ | h
                    · rcases h2 with h2 | h2
                      · rw [h2] at hl; simp at hl; omega
                      · exact h2 h5
                    · exact h4 h)]
                  exact ev_const (res_some (by omega))
                · rw [if_neg (fun h => h2 (key.1 h)), if_pos (.inl ⟨by
                    by_cases h5 : x = 0
                    · exact h5
                    · exact absurd (.inr h5) h2, by
                    cases pre with
                    | nil => exact absurd (.inl rfl) h2
                    | cons b r => simp at hl; omega⟩)]
                  exact Ev.now _
          · rw [decide_eq_false hlt, List.drop_eq_nil_of_le (by rw [byt_len]; omega), rvL_nil]
            refine ev_some fun K => ?_
            simp only [spec_ReadVar.j1]
            rfl
    exact main 5 0 [] rfl rfl rfl (fun b hb => by cases hb)
  · simp only [if_neg h0]
    exact Ev.now _
end Go.Proofs.Ytodokejcmbjpbaa.Pu

namespace Go.Proofs.Ytodokejcmbjpbaa.PK
open Go.RowKit Go.Proofs.YtodokejcmbjpbaaW.PrintWords Go.Proofs.YtodokejcmbjpbaaW.PrintLast Go.Proofs.YtodokejcmbjpbaaW.PrintMore
attribute [local go_sem] max2_int min2_int max_two min_two max_three min_three max_four min_four
def spec_RecOk.j0 : Nat → Bool → Int → Int → Int → Int → Option (Bool)
 | 0,_,_,_,_,_=>none
 | k + 1,x37,x247000,x247001,x247002,x247003=>if x37 = true then (some false) else (if x247000 = 2 then (some (decide (x247002 ≤ 9))) else (if x247000 = 3 then (some (x247002 == 0)) else (if x247000 = 4 then (if x247002 < 16 then ((spec_l01In.f x247003 1 1000000000).bind fun t250=>(some t250)) else (some false)) else (some (decide (x247002 < 16))))))
def spec_RecOk.f (k : Nat) (a0_0 : Int) (a0_1 : Int) (a0_2 : Int) (a0_3 : Int) : Option (Bool):=(spec_l01In.f a0_2 0 1000000000).bind fun t247=>(if t247 = true then (if a0_0 = 1 then (if a0_1 = 0 then (some (a0_3 == 0)) else (some false)) else ((spec_l01In.f a0_0 2 5).bind fun t248=>(if t248 = true then ((spec_l01In.f a0_1 1 9).bind fun t249=>(if t249 = true then (if a0_0 = 4 then (spec_RecOk.j0 k false a0_0 a0_1 a0_2 a0_3) else (spec_RecOk.j0 k (a0_3 != 0) a0_0 a0_1 a0_2 a0_3)) else (spec_RecOk.j0 k true a0_0 a0_1 a0_2 a0_3))) else (spec_RecOk.j0 k true a0_0 a0_1 a0_2 a0_3)))) else (some false))
theorem spec_RecOk.mono_l : ∀ k,(∀ y0 y1 y2 y3 y4,LeO (spec_RecOk.j0 k y0 y1 y2 y3 y4) (spec_RecOk.j0 (k + 1) y0 y1 y2 y3 y4))
 | 0=>fun _ _ _ _ _ r h=>by simp [spec_RecOk.j0] at h
 | k + 1=>by
  have ih0:=spec_RecOk.mono_l k;intro y0 y1 y2 y3 y4;unfold spec_RecOk.j0
  repeat' first
  | (with_reducible exact ih0 _ _ _ _ _)
  | (with_reducible exact LeO.refl _)
  | (with_reducible exact LeO.none _)
  | (with_reducible refine LeO.ite ?_ ?_)
  | (with_reducible refine LeO.bind ?_ (fun _=>?_))
  | exact ih0 _ _ _ _ _
  | exact LeO.none _
  | refine LeO.ite ?_ ?_
  | refine LeO.bind ?_ (fun _=>?_)
theorem spec_RecOk.mono : ∀ a0 a1 a2 a3 k,LeO (spec_RecOk.f k a0 a1 a2 a3) (spec_RecOk.f (k + 1) a0 a1 a2 a3):=by
 intro a0 a1 a2 a3 k;have ih0:=spec_RecOk.mono_l k;unfold spec_RecOk.f
 repeat' first
   | (with_reducible exact ih0 _ _ _ _ _)
   | (with_reducible exact LeO.refl _)
   | (with_reducible exact LeO.none _)
   | (with_reducible refine LeO.ite ?_ ?_)
   | (with_reducible refine LeO.bind ?_ (fun _=>?_))
   | exact ih0 _ _ _ _ _
   | exact LeO.none _
   | refine LeO.ite ?_ ?_
   | refine LeO.bind ?_ (fun _=>?_)
set_option maxHeartbeats 8000000 in
set_option maxRecDepth 100000 in
theorem spec_RecOk.calls (k : Nat) (a0_0 : Int) (a0_1 : Int) (a0_2 : Int) (a0_3 : Int) (r : Bool) (w : World) (h : spec_RecOk.f k a0_0 a0_1 a0_2 a0_3 = some r) :
  Calls Try.prog 51 #[.agg #[.int .i64 a0_0,.int .i64 a0_1,.int .i64 a0_2,.int .i64 a0_3]] w fun e w'=>e = .returned (.bool r) ∧ Below w.heap.size w w':=by
 have hu45:=Try.underlying45;have HB:=zMk (Below.refl w.heap.size w);have H : ((spec_l01In.f a0_2 0 1000000000).bind fun t247=>(if t247 = true then (if a0_0 = 1 then (if a0_1 = 0 then (some (a0_3 == 0)) else (some false)) else ((spec_l01In.f a0_0 2 5).bind fun t248=>(if t248 = true then ((spec_l01In.f a0_1 1 9).bind fun t249=>(if t249 = true then (if a0_0 = 4 then (spec_RecOk.j0 k false a0_0 a0_1 a0_2 a0_3) else (spec_RecOk.j0 k (a0_3 != 0) a0_0 a0_1 a0_2 a0_3)) else (spec_RecOk.j0 k true a0_0 a0_1 a0_2 a0_3))) else (spec_RecOk.j0 k true a0_0 a0_1 a0_2 a0_3)))) else (some false))) = some r:=h;clear h;replace H:=Option.bind_eq_some_iff.mp H;obtain ⟨t247,A20,H⟩:=H;replace H : (if t247 = true then (if a0_0 = 1 then (if a0_1 = 0 then (some (a0_3 == 0)) else (some false)) else ((spec_l01In.f a0_0 2 5).bind fun t248=>(if t248 = true then ((spec_l01In.f a0_1 1 9).bind fun t249=>(if t249 = true then (if a0_0 = 4 then (spec_RecOk.j0 k false a0_0 a0_1 a0_2 a0_3) else (spec_RecOk.j0 k (a0_3 != 0) a0_0 a0_1 a0_2 a0_3)) else (spec_RecOk.j0 k true a0_0 a0_1 a0_2 a0_3))) else (spec_RecOk.j0 k true a0_0 a0_1 a0_2 a0_3)))) else (some false)) = some r:=H;have A2:=zMk A20;clear A20
 by_cases c3 : t247 = true
 ·subst c3;have H1 : (if a0_0 = 1 then (if a0_1 = 0 then (some (a0_3 == 0)) else (some false)) else ((spec_l01In.f a0_0 2 5).bind fun t248=>(if t248 = true then ((spec_l01In.f a0_1 1 9).bind fun t249=>(if t249 = true then (if a0_0 = 4 then (spec_RecOk.j0 k false a0_0 a0_1 a0_2 a0_3) else (spec_RecOk.j0 k (a0_3 != 0) a0_0 a0_1 a0_2 a0_3)) else (spec_RecOk.j0 k true a0_0 a0_1 a0_2 a0_3))) else (spec_RecOk.j0 k true a0_0 a0_1 a0_2 a0_3)))) = some r:=by rw [if_pos rfl] at H;exact H
  clear H;have H:=H1;clear H1
  by_cases c4 : a0_0 = 1
  ·rw [if_pos c4] at H;have c4b0 : (a0_0 == 1) = true:=beq_iff_eq.mpr c4;have c4b1 : (a0_0 != 1) = false:=bne_eq_false_iff_eq.mpr c4;clear c4
   by_cases c5 : a0_1 = 0
   ·rw [if_pos c5] at H;have c5b0 : (a0_1 == 0) = true:=beq_iff_eq.mpr c5;have c5b1 : (a0_1 != 0) = false:=bne_eq_false_iff_eq.mpr c5;clear c5;obtain rfl:=Option.some.inj H
    go_enter Try.func51,Try.ntmps51
    go_wp2_with (first | ((with_reducible refine gate_dst (N:=1) rfl ?_);refine box_event ?hg (N:=1) ?hd (cs:=#[.int .i64 a0_0,.int .i64 a0_1,.int .i64 a0_2,.int .i64 a0_3]) (t:=45) ?hr ?_;(case hd=>rfl);(case hg=>rfl);(case hr=>first | (go_simp;done) | (go_simp;rfl));intro gb246 hg w6 hbox hb;have n0_:=zMk (below_step (hs HB) hb);have n1_:=zMk (hbox);have n2_:=zMk ((by rw [hg];exact (below_size (hs HB)) : w.heap.size ≤ gb246));have n3_:=zMk ((by rw [hg];exact (below_size (hs HB)) : w.heap.size ≤ gb246));clear HB;have HB:=n0_;have BK246:=n1_;have GW246:=n2_;have GE246:=n3_;clear n0_ n1_ n2_ n3_;clear hb hbox hg;have hcz7_0 : w6.cell? ⟨gb246,0,none⟩ = some (.int .i64 a0_0):=(zCl BK246.out 0).trans rfl;have hcz7_1 : w6.cell? ⟨gb246,1,none⟩ = some (.int .i64 a0_1):=(zCl BK246.out 1).trans rfl;have hcz7_2 : w6.cell? ⟨gb246,2,none⟩ = some (.int .i64 a0_2):=(zCl BK246.out 2).trans rfl;have hcz7_3 : w6.cell? ⟨gb246,3,none⟩ = some (.int .i64 a0_3):=(zCl BK246.out 3).trans rfl;have hfz7_0:=zFr BK246.out 0;have hfz7_1:=zFr BK246.out 1;have hfz7_2:=zFr BK246.out 2;have hfz7_3:=zFr BK246.out 3) | ((with_reducible refine gate_callee (f:=34) rfl ?_);refine goesL_ (some 5) rfl rfl Try.func34 (by kernel_rfl) rfl #[.int .i64 a0_2,.int .i64 0,.int .i64 1000000000] rfl (by (try simp only [List.map_toArray,List.map_cons,List.map_nil]);first | done | rfl | (simp only [List.length_drop,List.length_take];rfl)) ?_;(with_reducible refine (spec_l01In.calls a0_2 0 1000000000 true _ A2.out).mono ?_);rintro e w' ⟨rfl,⟨nd,rfl⟩⟩;refine ⟨_,rfl,?_⟩))
    go_ret
    exact ⟨by first | rfl | (simp [errW_none,errW_some] <;> rfl) | (simp [*,errW_none,errW_some] <;> rfl),hs1 HB GE246⟩
   rw [if_neg c5] at H;have c5b0 : (a0_1 == 0) = false:=beq_eq_false_iff_ne.mpr c5;have c5b1 : (a0_1 != 0) = true:=bne_iff_ne.mpr c5;obtain rfl:=Option.some.inj H
   go_enter Try.func51,Try.ntmps51
   go_wp2_with (first | ((with_reducible refine gate_dst (N:=1) rfl ?_);refine box_event ?hg (N:=1) ?hd (cs:=#[.int .i64 a0_0,.int .i64 a0_1,.int .i64 a0_2,.int .i64 a0_3]) (t:=45) ?hr ?_;(case hd=>rfl);(case hg=>rfl);(case hr=>first | (go_simp;done) | (go_simp;rfl));intro gb246 hg w8 hbox hb;have n0_:=zMk (below_step (hs HB) hb);have n1_:=zMk (hbox);have n2_:=zMk ((by rw [hg];exact (below_size (hs HB)) : w.heap.size ≤ gb246));have n3_:=zMk ((by rw [hg];exact (below_size (hs HB)) : w.heap.size ≤ gb246));clear HB;have HB:=n0_;have BK246:=n1_;have GW246:=n2_;have GE246:=n3_;clear n0_ n1_ n2_ n3_;clear hb hbox hg;have hcz9_0 : w8.cell? ⟨gb246,0,none⟩ = some (.int .i64 a0_0):=(zCl BK246.out 0).trans rfl;have hcz9_1 : w8.cell? ⟨gb246,1,none⟩ = some (.int .i64 a0_1):=(zCl BK246.out 1).trans rfl;have hcz9_2 : w8.cell? ⟨gb246,2,none⟩ = some (.int .i64 a0_2):=(zCl BK246.out 2).trans rfl;have hcz9_3 : w8.cell? ⟨gb246,3,none⟩ = some (.int .i64 a0_3):=(zCl BK246.out 3).trans rfl;have hfz9_0:=zFr BK246.out 0;have hfz9_1:=zFr BK246.out 1;have hfz9_2:=zFr BK246.out 2;have hfz9_3:=zFr BK246.out 3) | ((with_reducible refine gate_callee (f:=34) rfl ?_);refine goesL_ (some 5) rfl rfl Try.func34 (by kernel_rfl) rfl #[.int .i64 a0_2,.int .i64 0,.int .i64 1000000000] rfl (by (try simp only [List.map_toArray,List.map_cons,List.map_nil]);first | done | rfl | (simp only [List.length_drop,List.length_take];rfl)) ?_;(with_reducible refine (spec_l01In.calls a0_2 0 1000000000 true _ A2.out).mono ?_);rintro e w' ⟨rfl,⟨nd,rfl⟩⟩;refine ⟨_,rfl,?_⟩))
   go_ret
   exact ⟨by first | rfl | (simp [errW_none,errW_some] <;> rfl) | (simp [*,errW_none,errW_some] <;> rfl),hs1 HB GE246⟩
  rw [if_neg c4] at H;have c4b0 : (a0_0 == 1) = false:=beq_eq_false_iff_ne.mpr c4;have c4b1 : (a0_0 != 1) = true:=bne_iff_ne.mpr c4;have HC10:=zMk H;clear H
  go_enter Try.func51,Try.ntmps51
  go_upto_region 5 with (first | ((with_reducible refine gate_dst (N:=1) rfl ?_);refine box_event ?hg (N:=1) ?hd (cs:=#[.int .i64 a0_0,.int .i64 a0_1,.int .i64 a0_2,.int .i64 a0_3]) (t:=45) ?hr ?_;(case hd=>rfl);(case hg=>rfl);(case hr=>first | (go_simp;done) | (go_simp;rfl));intro gb246 hg w11 hbox hb;have n0_:=zMk (below_step (hs HB) hb);have n1_:=zMk (hbox);have n2_:=zMk ((by rw [hg];exact (below_size (hs HB)) : w.heap.size ≤ gb246));have n3_:=zMk ((by rw [hg];exact (below_size (hs HB)) : w.heap.size ≤ gb246));clear HB;have HB:=n0_;have BK246:=n1_;have GW246:=n2_;have GE246:=n3_;clear n0_ n1_ n2_ n3_;clear hb hbox hg;have hcz12_0 : w11.cell? ⟨gb246,0,none⟩ = some (.int .i64 a0_0):=(zCl BK246.out 0).trans rfl;have hcz12_1 : w11.cell? ⟨gb246,1,none⟩ = some (.int .i64 a0_1):=(zCl BK246.out 1).trans rfl;have hcz12_2 : w11.cell? ⟨gb246,2,none⟩ = some (.int .i64 a0_2):=(zCl BK246.out 2).trans rfl;have hcz12_3 : w11.cell? ⟨gb246,3,none⟩ = some (.int .i64 a0_3):=(zCl BK246.out 3).trans rfl;have hfz12_0:=zFr BK246.out 0;have hfz12_1:=zFr BK246.out 1;have hfz12_2:=zFr BK246.out 2;have hfz12_3:=zFr BK246.out 3) | ((with_reducible refine gate_callee (f:=34) rfl ?_);refine goesL_ (some 5) rfl rfl Try.func34 (by kernel_rfl) rfl #[.int .i64 a0_2,.int .i64 0,.int .i64 1000000000] rfl (by (try simp only [List.map_toArray,List.map_cons,List.map_nil]);first | done | rfl | (simp only [List.length_drop,List.length_take];rfl)) ?_;(with_reducible refine (spec_l01In.calls a0_2 0 1000000000 true _ A2.out).mono ?_);rintro e w' ⟨rfl,⟨nd,rfl⟩⟩;refine ⟨_,rfl,?_⟩))
  (try simp only [Act.put,zS1,zS2,zS3])
  go_cut [37] (fun v37 wc=>∃ (kq : Nat) (x37_9 : Bool),v37 = .bool x37_9 ∧ Aside0 (spec_RecOk.j0 kq x37_9 a0_0 a0_1 a0_2 a0_3 = some r) ∧ Aside0 (kq ≤ k) ∧ Aside0 (wc.heap[gb246]? = some (.cells #[.int .i64 a0_0,.int .i64 a0_1,.int .i64 a0_2,.int .i64 a0_3] 45 (0,0))) ∧ Aside0 (Below w.heap.size w wc))
  case first =>
   have H:=HC10.out;clear HC10;replace H:=Option.bind_eq_some_iff.mp H;obtain ⟨t248,A130,H⟩:=H;replace H : (if t248 = true then ((spec_l01In.f a0_1 1 9).bind fun t249=>(if t249 = true then (if a0_0 = 4 then (spec_RecOk.j0 k false a0_0 a0_1 a0_2 a0_3) else (spec_RecOk.j0 k (a0_3 != 0) a0_0 a0_1 a0_2 a0_3)) else (spec_RecOk.j0 k true a0_0 a0_1 a0_2 a0_3))) else (spec_RecOk.j0 k true a0_0 a0_1 a0_2 a0_3)) = some r:=H;have A13:=zMk A130;clear A130
   by_cases c14 : t248 = true
   ·subst c14;have H1 : ((spec_l01In.f a0_1 1 9).bind fun t249=>(if t249 = true then (if a0_0 = 4 then (spec_RecOk.j0 k false a0_0 a0_1 a0_2 a0_3) else (spec_RecOk.j0 k (a0_3 != 0) a0_0 a0_1 a0_2 a0_3)) else (spec_RecOk.j0 k true a0_0 a0_1 a0_2 a0_3))) = some r:=by rw [if_pos rfl] at H;exact H
    clear H;have H:=H1;clear H1;replace H:=Option.bind_eq_some_iff.mp H;obtain ⟨t249,A150,H⟩:=H;replace H : (if t249 = true then (if a0_0 = 4 then (spec_RecOk.j0 k false a0_0 a0_1 a0_2 a0_3) else (spec_RecOk.j0 k (a0_3 != 0) a0_0 a0_1 a0_2 a0_3)) else (spec_RecOk.j0 k true a0_0 a0_1 a0_2 a0_3)) = some r:=H;have A15:=zMk A150;clear A150
    by_cases c16 : t249 = true
    ·subst c16;have H1 : (if a0_0 = 4 then (spec_RecOk.j0 k false a0_0 a0_1 a0_2 a0_3) else (spec_RecOk.j0 k (a0_3 != 0) a0_0 a0_1 a0_2 a0_3)) = some r:=by rw [if_pos rfl] at H;exact H
     clear H;have H:=H1;clear H1
     by_cases c17 : a0_0 = 4
     ·rw [if_pos c17] at H;have c17b0 : (a0_0 == 4) = true:=beq_iff_eq.mpr c17;have c17b1 : (a0_0 != 4) = false:=bne_eq_false_iff_eq.mpr c17;clear c17
      (first | rw [c17b0] | (simp only [i64_w,i32_w];rw [c17b0]) | skip)
      have H':=zMk H;clear H;have hcz18_0 : w11.cell? ⟨gb246,0,none⟩ = some (.int .i64 a0_0):=(zCl BK246.out 0).trans rfl;have hcz18_1 : w11.cell? ⟨gb246,1,none⟩ = some (.int .i64 a0_1):=(zCl BK246.out 1).trans rfl;have hcz18_2 : w11.cell? ⟨gb246,2,none⟩ = some (.int .i64 a0_2):=(zCl BK246.out 2).trans rfl;have hcz18_3 : w11.cell? ⟨gb246,3,none⟩ = some (.int .i64 a0_3):=(zCl BK246.out 3).trans rfl;have hfz18_0:=zFr BK246.out 0;have hfz18_1:=zFr BK246.out 1;have hfz18_2:=zFr BK246.out 2;have hfz18_3:=zFr BK246.out 3;go_wp2_with (first | ((with_reducible refine gate_callee (f:=34) rfl ?_);refine goesL_ (some 20) rfl rfl Try.func34 (by kernel_rfl) rfl #[.int .i64 a0_0,.int .i64 2,.int .i64 5] rfl (by (try simp only [List.map_toArray,List.map_cons,List.map_nil]);first | done | rfl | (simp only [List.length_drop,List.length_take];rfl)) ?_;(with_reducible refine (spec_l01In.calls a0_0 2 5 true _ A13.out).mono ?_);rintro e w' ⟨rfl,⟨nd,rfl⟩⟩;refine ⟨_,rfl,?_⟩) | (go_at_call 34;(with_reducible refine (spec_l01In.calls a0_1 1 9 true _ A15.out).mono ?_);rintro e w' ⟨rfl,⟨nd,rfl⟩⟩))
      go_meet
      case rel=>exact ⟨_,(false),(by first | rfl | (simp;done) | (simp [*];done)),H',⟨by first | omega | exact Nat.le_refl _⟩,⟨bs BK246⟩,⟨hs1 HB GE246⟩⟩
     rw [if_neg c17] at H;have c17b0 : (a0_0 == 4) = false:=beq_eq_false_iff_ne.mpr c17;have c17b1 : (a0_0 != 4) = true:=bne_iff_ne.mpr c17
     (first | rw [c17b0] | (simp only [i64_w,i32_w];rw [c17b0]) | skip)
     have H':=zMk H;clear H;have hcz19_0 : w11.cell? ⟨gb246,0,none⟩ = some (.int .i64 a0_0):=(zCl BK246.out 0).trans rfl;have hcz19_1 : w11.cell? ⟨gb246,1,none⟩ = some (.int .i64 a0_1):=(zCl BK246.out 1).trans rfl;have hcz19_2 : w11.cell? ⟨gb246,2,none⟩ = some (.int .i64 a0_2):=(zCl BK246.out 2).trans rfl;have hcz19_3 : w11.cell? ⟨gb246,3,none⟩ = some (.int .i64 a0_3):=(zCl BK246.out 3).trans rfl;have hfz19_0:=zFr BK246.out 0;have hfz19_1:=zFr BK246.out 1;have hfz19_2:=zFr BK246.out 2;have hfz19_3:=zFr BK246.out 3;go_wp2_with (first | ((with_reducible refine gate_callee (f:=34) rfl ?_);refine goesL_ (some 20) rfl rfl Try.func34 (by kernel_rfl) rfl #[.int .i64 a0_0,.int .i64 2,.int .i64 5] rfl (by (try simp only [List.map_toArray,List.map_cons,List.map_nil]);first | done | rfl | (simp only [List.length_drop,List.length_take];rfl)) ?_;(with_reducible refine (spec_l01In.calls a0_0 2 5 true _ A13.out).mono ?_);rintro e w' ⟨rfl,⟨nd,rfl⟩⟩;refine ⟨_,rfl,?_⟩) | (go_at_call 34;(with_reducible refine (spec_l01In.calls a0_1 1 9 true _ A15.out).mono ?_);rintro e w' ⟨rfl,⟨nd,rfl⟩⟩))
     go_meet
     case rel=>exact ⟨_,((a0_3 != 0)),(by first | rfl | (simp;done) | (simp [*];done)),H',⟨by first | omega | exact Nat.le_refl _⟩,⟨bs BK246⟩,⟨hs1 HB GE246⟩⟩
    replace c16:=Bool.eq_false_iff.mpr c16;subst c16;have H1 : (spec_RecOk.j0 k true a0_0 a0_1 a0_2 a0_3) = some r:=by rw [if_neg (show ¬ (false = true) by decide)] at H;exact H
    clear H;have H:=H1;clear H1;have H':=zMk H;clear H;have hcz20_0 : w11.cell? ⟨gb246,0,none⟩ = some (.int .i64 a0_0):=(zCl BK246.out 0).trans rfl;have hcz20_1 : w11.cell? ⟨gb246,1,none⟩ = some (.int .i64 a0_1):=(zCl BK246.out 1).trans rfl;have hcz20_2 : w11.cell? ⟨gb246,2,none⟩ = some (.int .i64 a0_2):=(zCl BK246.out 2).trans rfl;have hcz20_3 : w11.cell? ⟨gb246,3,none⟩ = some (.int .i64 a0_3):=(zCl BK246.out 3).trans rfl;have hfz20_0:=zFr BK246.out 0;have hfz20_1:=zFr BK246.out 1;have hfz20_2:=zFr BK246.out 2;have hfz20_3:=zFr BK246.out 3;go_wp2_with (first | ((with_reducible refine gate_callee (f:=34) rfl ?_);refine goesL_ (some 20) rfl rfl Try.func34 (by kernel_rfl) rfl #[.int .i64 a0_0,.int .i64 2,.int .i64 5] rfl (by (try simp only [List.map_toArray,List.map_cons,List.map_nil]);first | done | rfl | (simp only [List.length_drop,List.length_take];rfl)) ?_;(with_reducible refine (spec_l01In.calls a0_0 2 5 true _ A13.out).mono ?_);rintro e w' ⟨rfl,⟨nd,rfl⟩⟩;refine ⟨_,rfl,?_⟩) | (go_at_call 34;(with_reducible refine (spec_l01In.calls a0_1 1 9 false _ A15.out).mono ?_);rintro e w' ⟨rfl,⟨nd,rfl⟩⟩))
    go_meet
    case rel=>exact ⟨_,(true),(by first | rfl | (simp;done) | (simp [*];done)),H',⟨by first | omega | exact Nat.le_refl _⟩,⟨bs BK246⟩,⟨hs1 HB GE246⟩⟩
   replace c14:=Bool.eq_false_iff.mpr c14;subst c14;have H1 : (spec_RecOk.j0 k true a0_0 a0_1 a0_2 a0_3) = some r:=by rw [if_neg (show ¬ (false = true) by decide)] at H;exact H
   clear H;have H:=H1;clear H1;have H':=zMk H;clear H;have hcz21_0 : w11.cell? ⟨gb246,0,none⟩ = some (.int .i64 a0_0):=(zCl BK246.out 0).trans rfl;have hcz21_1 : w11.cell? ⟨gb246,1,none⟩ = some (.int .i64 a0_1):=(zCl BK246.out 1).trans rfl;have hcz21_2 : w11.cell? ⟨gb246,2,none⟩ = some (.int .i64 a0_2):=(zCl BK246.out 2).trans rfl;have hcz21_3 : w11.cell? ⟨gb246,3,none⟩ = some (.int .i64 a0_3):=(zCl BK246.out 3).trans rfl;have hfz21_0:=zFr BK246.out 0;have hfz21_1:=zFr BK246.out 1;have hfz21_2:=zFr BK246.out 2;have hfz21_3:=zFr BK246.out 3;go_wp2_with (first | ((with_reducible refine gate_callee (f:=34) rfl ?_);refine goesL_ (some 20) rfl rfl Try.func34 (by kernel_rfl) rfl #[.int .i64 a0_0,.int .i64 2,.int .i64 5] rfl (by (try simp only [List.map_toArray,List.map_cons,List.map_nil]);first | done | rfl | (simp only [List.length_drop,List.length_take];rfl)) ?_;(with_reducible refine (spec_l01In.calls a0_0 2 5 false _ A13.out).mono ?_);rintro e w' ⟨rfl,⟨nd,rfl⟩⟩;refine ⟨_,rfl,?_⟩))
   go_meet
   case rel=>exact ⟨_,(true),(by first | rfl | (simp;done) | (simp [*];done)),H',⟨by first | omega | exact Nat.le_refl _⟩,⟨bs BK246⟩,⟨hs1 HB GE246⟩⟩
  case rest =>
   clear HC10
   try clear c1
   try clear p2
   try clear c3
   try clear c4
   try clear c4b0
   try clear c4b1
   try clear c5
   try clear c5b0
   try clear c5b1
   try clear c14
   try clear c16
   try clear c17
   try clear c17b0
   try clear c17b1
   try clear hcz12_0
   try clear hcz12_1
   try clear hcz12_2
   try clear hcz12_3
   try clear hcz18_0
   try clear hcz18_1
   try clear hcz18_2
   try clear hcz18_3
   try clear hcz19_0
   try clear hcz19_1
   try clear hcz19_2
   try clear hcz19_3
   try clear hcz20_0
   try clear hcz20_1
   try clear hcz20_2
   try clear hcz20_3
   try clear hcz21_0
   try clear hcz21_1
   try clear hcz21_2
   try clear hcz21_3
   try clear hcz7_0
   try clear hcz7_1
   try clear hcz7_2
   try clear hcz7_3
   try clear hcz9_0
   try clear hcz9_1
   try clear hcz9_2
   try clear hcz9_3
   try clear hfz12_0
   try clear hfz12_1
   try clear hfz12_2
   try clear hfz12_3
   try clear hfz18_0
   try clear hfz18_1
   try clear hfz18_2
   try clear hfz18_3
   try clear hfz19_0
   try clear hfz19_1
   try clear hfz19_2
   try clear hfz19_3
   try clear hfz20_0
   try clear hfz20_1
   try clear hfz20_2
   try clear hfz20_3
   try clear hfz21_0
   try clear hfz21_1
   try clear hfz21_2
   try clear hfz21_3
   try clear hfz7_0
   try clear hfz7_1
   try clear hfz7_2
   try clear hfz7_3
   try clear hfz9_0
   try clear hfz9_1
   try clear hfz9_2
   try clear hfz9_3
   obtain ⟨kq,x37_9,rfl,HA,HJ9,BK246,HB⟩:=hcut;cases kq with
   | zero=>exact absurd HA.out (by simp [spec_RecOk.j0])
   | succ kj9 =>
    have H:=HA.out;clear HA;simp only [spec_RecOk.j0] at H
    by_cases c22 : x37_9 = true
    ·subst c22;have H1 : (some false) = some r:=by rw [if_pos rfl] at H;exact H
     clear H;have H:=H1;clear H1;obtain rfl:=Option.some.inj H
     go_wp2
     go_ret
     exact ⟨by first | rfl | (simp [errW_none,errW_some] <;> rfl) | (simp [*,errW_none,errW_some] <;> rfl),hs1 HB GE246⟩
    replace c22:=Bool.eq_false_iff.mpr c22;subst c22;have H1 : (if a0_0 = 2 then (some (decide (a0_2 ≤ 9))) else (if a0_0 = 3 then (some (a0_2 == 0)) else (if a0_0 = 4 then (if a0_2 < 16 then ((spec_l01In.f a0_3 1 1000000000).bind fun t250=>(some t250)) else (some false)) else (some (decide (a0_2 < 16)))))) = some r:=by rw [if_neg (show ¬ (false = true) by decide)] at H;exact H
    clear H;have H:=H1;clear H1
    by_cases c23 : a0_0 = 2
    ·rw [if_pos c23] at H;have c23b0 : (a0_0 == 2) = true:=beq_iff_eq.mpr c23;have c23b1 : (a0_0 != 2) = false:=bne_eq_false_iff_eq.mpr c23;clear c23;obtain rfl:=Option.some.inj H;have hcz24_0 : wc.cell? ⟨gb246,0,none⟩ = some (.int .i64 a0_0):=(zCl BK246.out 0).trans rfl;have hcz24_1 : wc.cell? ⟨gb246,1,none⟩ = some (.int .i64 a0_1):=(zCl BK246.out 1).trans rfl;have hcz24_2 : wc.cell? ⟨gb246,2,none⟩ = some (.int .i64 a0_2):=(zCl BK246.out 2).trans rfl;have hcz24_3 : wc.cell? ⟨gb246,3,none⟩ = some (.int .i64 a0_3):=(zCl BK246.out 3).trans rfl;have hfz24_0:=zFr BK246.out 0;have hfz24_1:=zFr BK246.out 1;have hfz24_2:=zFr BK246.out 2;have hfz24_3:=zFr BK246.out 3
     go_wp2
     go_ret
     exact ⟨by first | rfl | (simp [errW_none,errW_some] <;> rfl) | (simp [*,errW_none,errW_some] <;> rfl),hs1 HB GE246⟩
    rw [if_neg c23] at H;have c23b0 : (a0_0 == 2) = false:=beq_eq_false_iff_ne.mpr c23;have c23b1 : (a0_0 != 2) = true:=bne_iff_ne.mpr c23
    by_cases c25 : a0_0 = 3
    ·rw [if_pos c25] at H;have c25b0 : (a0_0 == 3) = true:=beq_iff_eq.mpr c25;have c25b1 : (a0_0 != 3) = false:=bne_eq_false_iff_eq.mpr c25;clear c25;obtain rfl:=Option.some.inj H;have hcz26_0 : wc.cell? ⟨gb246,0,none⟩ = some (.int .i64 a0_0):=(zCl BK246.out 0).trans rfl;have hcz26_1 : wc.cell? ⟨gb246,1,none⟩ = some (.int .i64 a0_1):=(zCl BK246.out 1).trans rfl;have hcz26_2 : wc.cell? ⟨gb246,2,none⟩ = some (.int .i64 a0_2):=(zCl BK246.out 2).trans rfl;have hcz26_3 : wc.cell? ⟨gb246,3,none⟩ = some (.int .i64 a0_3):=(zCl BK246.out 3).trans rfl;have hfz26_0:=zFr BK246.out 0;have hfz26_1:=zFr BK246.out 1;have hfz26_2:=zFr BK246.out 2;have hfz26_3:=zFr BK246.out 3
     go_wp2
     go_ret
     exact ⟨by first | rfl | (simp [errW_none,errW_some] <;> rfl) | (simp [*,errW_none,errW_some] <;> rfl),hs1 HB GE246⟩
    rw [if_neg c25] at H;have c25b0 : (a0_0 == 3) = false:=beq_eq_false_iff_ne.mpr c25;have c25b1 : (a0_0 != 3) = true:=bne_iff_ne.mpr c25
    by_cases c27 : a0_0 = 4
    ·rw [if_pos c27] at H;have c27b0 : (a0_0 == 4) = true:=beq_iff_eq.mpr c27;have c27b1 : (a0_0 != 4) = false:=bne_eq_false_iff_eq.mpr c27;clear c27
     by_cases c28 : a0_2 < 16
     ·rw [if_pos c28] at H;have c28b0 : decide (a0_2 < 16) = true:=decide_eq_true c28;clear c28;replace H:=Option.bind_eq_some_iff.mp H;obtain ⟨t250,A290,H⟩:=H;replace H : (some t250) = some r:=H;have A29:=zMk A290;clear A290;obtain rfl:=Option.some.inj H;have hcz30_0 : wc.cell? ⟨gb246,0,none⟩ = some (.int .i64 a0_0):=(zCl BK246.out 0).trans rfl;have hcz30_1 : wc.cell? ⟨gb246,1,none⟩ = some (.int .i64 a0_1):=(zCl BK246.out 1).trans rfl;have hcz30_2 : wc.cell? ⟨gb246,2,none⟩ = some (.int .i64 a0_2):=(zCl BK246.out 2).trans rfl;have hcz30_3 : wc.cell? ⟨gb246,3,none⟩ = some (.int .i64 a0_3):=(zCl BK246.out 3).trans rfl;have hfz30_0:=zFr BK246.out 0;have hfz30_1:=zFr BK246.out 1;have hfz30_2:=zFr BK246.out 2;have hfz30_3:=zFr BK246.out 3;go_wp2_with (first | (go_at_call 34;(with_reducible refine (spec_l01In.calls a0_3 1 1000000000 t250 _ A29.out).mono ?_);rintro e w' ⟨rfl,⟨nd,rfl⟩⟩))
      go_ret
      exact ⟨by first | rfl | (simp [errW_none,errW_some] <;> rfl) | (simp [*,errW_none,errW_some] <;> rfl),hs1 HB GE246⟩
     rw [if_neg c28] at H;have c28b0 : decide (a0_2 < 16) = false:=decide_eq_false c28;clear c28;obtain rfl:=Option.some.inj H;have hcz31_0 : wc.cell? ⟨gb246,0,none⟩ = some (.int .i64 a0_0):=(zCl BK246.out 0).trans rfl;have hcz31_1 : wc.cell? ⟨gb246,1,none⟩ = some (.int .i64 a0_1):=(zCl BK246.out 1).trans rfl;have hcz31_2 : wc.cell? ⟨gb246,2,none⟩ = some (.int .i64 a0_2):=(zCl BK246.out 2).trans rfl;have hcz31_3 : wc.cell? ⟨gb246,3,none⟩ = some (.int .i64 a0_3):=(zCl BK246.out 3).trans rfl;have hfz31_0:=zFr BK246.out 0;have hfz31_1:=zFr BK246.out 1;have hfz31_2:=zFr BK246.out 2;have hfz31_3:=zFr BK246.out 3
     go_wp2
     go_ret
     exact ⟨by first | rfl | (simp [errW_none,errW_some] <;> rfl) | (simp [*,errW_none,errW_some] <;> rfl),hs1 HB GE246⟩
    rw [if_neg c27] at H;have c27b0 : (a0_0 == 4) = false:=beq_eq_false_iff_ne.mpr c27;have c27b1 : (a0_0 != 4) = true:=bne_iff_ne.mpr c27;obtain rfl:=Option.some.inj H;have hcz32_0 : wc.cell? ⟨gb246,0,none⟩ = some (.int .i64 a0_0):=(zCl BK246.out 0).trans rfl;have hcz32_1 : wc.cell? ⟨gb246,1,none⟩ = some (.int .i64 a0_1):=(zCl BK246.out 1).trans rfl;have hcz32_2 : wc.cell? ⟨gb246,2,none⟩ = some (.int .i64 a0_2):=(zCl BK246.out 2).trans rfl;have hcz32_3 : wc.cell? ⟨gb246,3,none⟩ = some (.int .i64 a0_3):=(zCl BK246.out 3).trans rfl;have hfz32_0:=zFr BK246.out 0;have hfz32_1:=zFr BK246.out 1;have hfz32_2:=zFr BK246.out 2;have hfz32_3:=zFr BK246.out 3
    go_wp2
    go_ret
    exact ⟨by first | rfl | (simp [errW_none,errW_some] <;> rfl) | (simp [*,errW_none,errW_some] <;> rfl),hs1 HB GE246⟩
 replace c3:=Bool.eq_false_iff.mpr c3;subst c3;have H1 : (some false) = some r:=by rw [if_neg (show ¬ (false = true) by decide)] at H;exact H
 clear H;have H:=H1;clear H1;obtain rfl:=Option.some.inj H
 go_enter Try.func51,Try.ntmps51
 go_wp2_with (first | ((with_reducible refine gate_dst (N:=1) rfl ?_);refine box_event ?hg (N:=1) ?hd (cs:=#[.int .i64 a0_0,.int .i64 a0_1,.int .i64 a0_2,.int .i64 a0_3]) (t:=45) ?hr ?_;(case hd=>rfl);(case hg=>rfl);(case hr=>first | (go_simp;done) | (go_simp;rfl));intro gb246 hg w33 hbox hb;have n0_:=zMk (below_step (hs HB) hb);have n1_:=zMk (hbox);have n2_:=zMk ((by rw [hg];exact (below_size (hs HB)) : w.heap.size ≤ gb246));have n3_:=zMk ((by rw [hg];exact (below_size (hs HB)) : w.heap.size ≤ gb246));clear HB;have HB:=n0_;have BK246:=n1_;have GW246:=n2_;have GE246:=n3_;clear n0_ n1_ n2_ n3_;clear hb hbox hg;have hcz34_0 : w33.cell? ⟨gb246,0,none⟩ = some (.int .i64 a0_0):=(zCl BK246.out 0).trans rfl;have hcz34_1 : w33.cell? ⟨gb246,1,none⟩ = some (.int .i64 a0_1):=(zCl BK246.out 1).trans rfl;have hcz34_2 : w33.cell? ⟨gb246,2,none⟩ = some (.int .i64 a0_2):=(zCl BK246.out 2).trans rfl;have hcz34_3 : w33.cell? ⟨gb246,3,none⟩ = some (.int .i64 a0_3):=(zCl BK246.out 3).trans rfl;have hfz34_0:=zFr BK246.out 0;have hfz34_1:=zFr BK246.out 1;have hfz34_2:=zFr BK246.out 2;have hfz34_3:=zFr BK246.out 3) | ((with_reducible refine gate_callee (f:=34) rfl ?_);refine goesL_ (some 5) rfl rfl Try.func34 (by kernel_rfl) rfl #[.int .i64 a0_2,.int .i64 0,.int .i64 1000000000] rfl (by (try simp only [List.map_toArray,List.map_cons,List.map_nil]);first | done | rfl | (simp only [List.length_drop,List.length_take];rfl)) ?_;(with_reducible refine (spec_l01In.calls a0_2 0 1000000000 false _ A2.out).mono ?_);rintro e w' ⟨rfl,⟨nd,rfl⟩⟩;refine ⟨_,rfl,?_⟩))
 go_ret
 exact ⟨by first | rfl | (simp [errW_none,errW_some] <;> rfl) | (simp [*,errW_none,errW_some] <;> rfl),hs1 HB GE246⟩
end Go.Proofs.Ytodokejcmbjpbaa.PK

/- When a record is right, as one test; the program's and the reference's RecOk answer it. -/
namespace Go.Proofs.Ytodokejcmbjpbaa.Pu
open Go.RowKit Go.Proofs.Ytodokejcmbjpbaa.PK Go.Proofs.YtodokejcmbjpbaaW.PrintWords
theorem in_eq' (a l h : Int) : impl_in.f a l h = some (decide (l ≤ a ∧ a ≤ h)) := by
  unfold impl_in.f
  by_cases h1 : a ≥ l
  · rw [if_pos h1]; congr 1; simp; omega
  · rw [if_neg h1]; congr 1; simp; omega
theorem l01In_eq' (a l h : Int) : spec_l01In.f a l h = some (decide (l ≤ a ∧ a ≤ h)) := by
  unfold spec_l01In.f
  by_cases h1 : a ≥ l
  · rw [if_pos h1]; congr 1; simp; omega
  · rw [if_neg h1]; congr 1; simp; omega
theorem some_dec {b : Bool} {P : Prop} [Decidable P] (h : b = true ↔ P) : some b = some (decide P) := by
  congr 1
  rw [Bool.eq_iff_iff, decide_eq_true_eq]
  exact h

/-- A record is right. -/
def recOk (t v a c : Int) : Bool := decide (0 ≤ a ∧ a ≤ 1000000000 ∧ ((t = 1 ∧ v = 0 ∧ c = 0) ∨ (1 ≤ v ∧ v ≤ 9 ∧ ((t = 2 ∧ c = 0 ∧ a ≤ 9) ∨ (t = 3 ∧ c = 0 ∧ a = 0) ∨ (t = 4 ∧ a ≤ 15 ∧ 1 ≤ c ∧ c ≤ 1000000000) ∨ (t = 5 ∧ c = 0 ∧ a ≤ 15)))))
theorem impl_RecOk_eq (k : Nat) (t v a c : Int) : impl_RecOk.f (k + 1) t v a c = some (recOk t v a c) := by
  unfold impl_RecOk.f impl_RecOk.j0 recOk
  simp only [in_eq', Option.bind_some]
  repeat' split
  all_goals (refine some_dec ?_)
  all_goals (simp only [beq_iff_eq, bne_iff_ne, ne_eq, decide_eq_true_eq, Bool.false_eq_true, false_iff, not_true_eq_false, not_false_eq_true] at *)
  all_goals omega
theorem spec_RecOk_eq (k : Nat) (t v a c : Int) : spec_RecOk.f (k + 1) t v a c = some (recOk t v a c) := by
  unfold spec_RecOk.f spec_RecOk.j0 recOk
  simp only [l01In_eq', Option.bind_some]
  repeat' split
  all_goals (refine some_dec ?_)
  all_goals (simp only [beq_iff_eq, bne_iff_ne, ne_eq, decide_eq_true_eq, Bool.false_eq_true, false_iff, not_true_eq_false, not_false_eq_true] at *)
  all_goals omega
theorem iRecOk_ev (t v a c : Int) : Ev (fun k => impl_RecOk.f k t v a c) (recOk t v a c) := ev_some fun k => impl_RecOk_eq k t v a c
theorem sRecOk_ev (t v a c : Int) : Ev (fun k => spec_RecOk.f k t v a c) (recOk t v a c) := ev_some fun k => spec_RecOk_eq k t v a c
theorem recOk_range {t v a c : Int} (h : recOk t v a c = true) : 1 ≤ t ∧ t ≤ 5 ∧ 0 ≤ v ∧ v ≤ 9 ∧ 0 ≤ a ∧ a ≤ 1000000000 ∧ 0 ≤ c ∧ c ≤ 1000000000 := by
  unfold recOk at h
  rw [decide_eq_true_eq] at h
  omega
end Go.Proofs.Ytodokejcmbjpbaa.Pu

namespace Go.Proofs.Ytodokejcmbjpbaa.PK
open Go.RowKit Go.Proofs.YtodokejcmbjpbaaW.PrintWords Go.Proofs.YtodokejcmbjpbaaW.PrintLast Go.Proofs.YtodokejcmbjpbaaW.PrintMore
attribute [local go_sem] max2_int min2_int max_two min_two max_three min_three max_four min_four
def IsS99 (w0 W : World) (g : Nat) (f0 : ByteArray) (f1 : Int) (f2 : Bool) : Prop:=W.heap[g]? = some (.cells #[.string f0,.int .i64 f1,.bool f2] 99 (0,0)) ∧ w0.heap.size ≤ g
theorem IsS99.grown {w0 W : World} {g : Nat} {f0 : ByteArray} {f1 : Int} {f2 : Bool} {W1 : World} {row : Option Nat} (h : IsS99 w0 W g f0 f1 f2) (hw : W.grownBy W1 row) (hne : some g ≠ row) : IsS99 w0 W1 g f0 f1 f2:=by
 obtain ⟨hb,hg⟩:=h;exact ⟨blk_grown hb hw hne,hg⟩
theorem IsS99.own_neN {w0 W : World} {g : Nat} {f0 : ByteArray} {f1 : Int} {f2 : Bool} {α : Type} {d : Kd α} {e : Nat} {base : Nat} {ok : Nat → Prop} {v : Value} {xs : List α} (h : IsS99 w0 W g f0 f1 f2) (ho : Kd.N d e W base ok v xs) (ht : e ≠ 99) : some g ≠ v.ownBlock:=by
 obtain ⟨hb,hg⟩:=h;exact Kd.N_ne ho hb ht
theorem IsS99.fresh {w0 W : World} {g : Nat} {f0 : ByteArray} {f1 : Int} {f2 : Bool} (h : IsS99 w0 W g f0 f1 f2) : ∀ k,W.heap.size ≤ k → k ≠ g:=by
 obtain ⟨hb,hg⟩:=h;exact Kd.freshB hb
theorem IsS99.kept {w0 W : World} {g : Nat} {f0 : ByteArray} {f1 : Int} {f2 : Bool} {W1 : World} {S : Nat → Prop} (h : IsS99 w0 W g f0 f1 f2) (hk : Kept W W1 S) (hne : ¬ S g) : IsS99 w0 W1 g f0 f1 f2:=by
 obtain ⟨hb,hg⟩:=h;exact ⟨blk_kept hb hk hne,hg⟩
theorem IsS99.below {w0 W : World} {g : Nat} {f0 : ByteArray} {f1 : Int} {f2 : Bool} {W1 : World} (h : IsS99 w0 W g f0 f1 f2) (hw : Below W.heap.size W W1) : IsS99 w0 W1 g f0 f1 f2:=h.grown (grown_of_below hw none) (by simp)
theorem IsS99.alloc {w0 W : World} {g : Nat} {f0 : ByteArray} {f1 : Int} {f2 : Bool} (h : IsS99 w0 W g f0 f1 f2) (o : Obj) : IsS99 w0 (W.alloc o) g f0 f1 f2:=h.below (below_alloc (Below.refl _ _) o)
theorem IsS99.drewN {w0 W : World} {g : Nat} {f0 : ByteArray} {f1 : Int} {f2 : Bool} (h : IsS99 w0 W g f0 f1 f2) (m : Nat) : IsS99 w0 (W.drewN m) g f0 f1 f2:=h
theorem IsS99.drew {w0 W : World} {g : Nat} {f0 : ByteArray} {f1 : Int} {f2 : Bool} (h : IsS99 w0 W g f0 f1 f2) : IsS99 w0 W.drew g f0 f1 f2:=h
theorem IsS99.at_ {w0 W : World} {g : Nat} {f0 : ByteArray} {f1 : Int} {f2 : Bool} {w' : World} {m : Nat} (hq : W.drewN m = w') (h : IsS99 w0 W g f0 f1 f2) : IsS99 w0 w' g f0 f1 f2:=by subst hq;exact IsS99.drewN h m
theorem IsS99.apart {w0 W : World} {g : Nat} {f0 : ByteArray} {f1 : Int} {f2 : Bool} {α : Type} {d : Kd α} {e : Nat} {base : Nat} {ok : Nat → Prop} {v : Value} {xs : List α} (h : IsS99 w0 W g f0 f1 f2) (ho : d.R e W base ok v xs) (ht : ∀ q,q ∈ e :: d.E → q ≠ 99) : d.R e W base (fun k=>ok k ∧ k ≠ g) v xs:=by
 obtain ⟨hb,hg⟩:=h;exact Kd.R_types ho hb ht
theorem IsS99.own_ne {w0 W : World} {g : Nat} {f0 : ByteArray} {f1 : Int} {f2 : Bool} {α : Type} {d : Kd α} {e : Nat} {base : Nat} {ok : Nat → Prop} {v : Value} {xs : List α} (h : IsS99 w0 W g f0 f1 f2) (ho : d.R e W base ok v xs) (ht : e ≠ 99) : some g ≠ v.ownBlock:=by
 obtain ⟨hb,hg⟩:=h;exact Kd.R_ne ho hb ht
theorem IsS99.apartQ {w0 W : World} {g : Nat} {f0 : ByteArray} {f1 : Int} {f2 : Bool} {α : Type} {d : Kd α} {e : Nat} {base : Nat} {ok : Nat → Prop} {v : Value} {xs : List α} (h : IsS99 w0 W g f0 f1 f2) (ho : d.Q e W base ok v xs) (ht : ∀ q,q ∈ e :: d.E → q ≠ 99) : d.Q e W base (fun k=>ok k ∧ k ≠ g) v xs:=by
 obtain ⟨hb,hg⟩:=h;exact Kd.Q_types ho hb ht
theorem IsS99.own_neQ {w0 W : World} {g : Nat} {f0 : ByteArray} {f1 : Int} {f2 : Bool} {α : Type} {d : Kd α} {e : Nat} {base : Nat} {ok : Nat → Prop} {v : Value} {xs : List α} (h : IsS99 w0 W g f0 f1 f2) (ho : d.Q e W base ok v xs) (ht : e ≠ 99) : some g ≠ v.ownBlock:=by
 obtain ⟨hb,hg⟩:=h;exact Kd.Q_ne ho hb ht
theorem IsS99.apartS {w0 W : World} {g : Nat} {f0 : ByteArray} {f1 : Int} {f2 : Bool} {α : Type} {d : Kd α} {e : Nat} {base : Nat} {ok : Nat → Prop} {v : Value} {xs : List α} (h : IsS99 w0 W g f0 f1 f2) (ho : d.S e W base ok v xs) (ht : ∀ q,q ∈ e :: d.E → q ≠ 99) : d.S e W base (fun k=>ok k ∧ k ≠ g) v xs:=by
 obtain ⟨hb,hg⟩:=h;exact Kd.S_types ho hb ht
theorem IsS99.own_neS {w0 W : World} {g : Nat} {f0 : ByteArray} {f1 : Int} {f2 : Bool} {α : Type} {d : Kd α} {e : Nat} {base : Nat} {ok : Nat → Prop} {v : Value} {xs : List α} (h : IsS99 w0 W g f0 f1 f2) (ho : d.S e W base ok v xs) (ht : e ≠ 99) : some g ≠ v.ownBlock:=by
 obtain ⟨hb,hg⟩:=h;exact Kd.S_ne ho hb ht
theorem IsS99.lt {w0 W : World} {g : Nat} {f0 : ByteArray} {f1 : Int} {f2 : Bool} (h : IsS99 w0 W g f0 f1 f2) : g < W.heap.size:=by
 obtain ⟨hb,hg⟩:=h;exact blk_lt hb
theorem IsS99.ge {w0 W : World} {g : Nat} {f0 : ByteArray} {f1 : Int} {f2 : Bool} (h : IsS99 w0 W g f0 f1 f2) : w0.heap.size ≤ g:=by
 obtain ⟨hb,hg⟩:=h;exact hg
theorem IsS99.ne_blk {w0 W : World} {g : Nat} {f0 : ByteArray} {f1 : Int} {f2 : Bool} {a : Nat} {cs : Array Value} {t : TypeId} {fr : Nat × Nat} (h : IsS99 w0 W g f0 f1 f2) (hb2 : W.heap[a]? = some (.cells cs t fr)) (ht : t ≠ 99) : g ≠ a:=by
 obtain ⟨hb,hg⟩:=h;rintro rfl;rw [hb] at hb2;injection hb2 with hb2;injection hb2 with _ ht2;exact ht ht2.symm
theorem IsS99.far {w0 W : World} {g : Nat} {f0 : ByteArray} {f1 : Int} {f2 : Bool} {p : Addr} (h : IsS99 w0 W g f0 f1 f2) (hne : g ≠ p.block) (u : Value) : IsS99 w0 (W.setCell p u) g f0 f1 f2:=by
 obtain ⟨hb,hg⟩:=h;exact ⟨blk_far hb hne u,hg⟩
theorem cellS99_0 {W : World} {g : Nat} {f0 : ByteArray} {f1 : Int} {f2 : Bool} (h : W.heap[g]? = some (.cells #[.string f0,.int .i64 f1,.bool f2] 99 (0,0))) : W.cell? ⟨g,0,none⟩ = some (.string f0):=(zCl h 0).trans rfl
theorem IsS99.set_0 {w0 W : World} {g : Nat} {f0 : ByteArray} {f1 : Int} {f2 : Bool} (h : IsS99 w0 W g f0 f1 f2) (x : ByteArray) : IsS99 w0 (W.setCell ⟨g,0,none⟩ (.string x)) g x f1 f2:=by
 obtain ⟨hb,hg⟩:=h;exact ⟨by simpa using blk_set hb 0 (.string x),hg⟩
theorem cellS99_1 {W : World} {g : Nat} {f0 : ByteArray} {f1 : Int} {f2 : Bool} (h : W.heap[g]? = some (.cells #[.string f0,.int .i64 f1,.bool f2] 99 (0,0))) : W.cell? ⟨g,1,none⟩ = some (.int .i64 f1):=(zCl h 1).trans rfl
theorem IsS99.set_1 {w0 W : World} {g : Nat} {f0 : ByteArray} {f1 : Int} {f2 : Bool} (h : IsS99 w0 W g f0 f1 f2) (x : Int) : IsS99 w0 (W.setCell ⟨g,1,none⟩ (.int .i64 x)) g f0 x f2:=by
 obtain ⟨hb,hg⟩:=h;exact ⟨by simpa using blk_set hb 1 (.int .i64 x),hg⟩
theorem cellS99_2 {W : World} {g : Nat} {f0 : ByteArray} {f1 : Int} {f2 : Bool} (h : W.heap[g]? = some (.cells #[.string f0,.int .i64 f1,.bool f2] 99 (0,0))) : W.cell? ⟨g,2,none⟩ = some (.bool f2):=(zCl h 2).trans rfl
theorem IsS99.set_2 {w0 W : World} {g : Nat} {f0 : ByteArray} {f1 : Int} {f2 : Bool} (h : IsS99 w0 W g f0 f1 f2) (x : Bool) : IsS99 w0 (W.setCell ⟨g,2,none⟩ (.bool x)) g f0 f1 x:=by
 obtain ⟨hb,hg⟩:=h;exact ⟨by simpa using blk_set hb 2 (.bool x),hg⟩
theorem IsS99.new (w0 W : World) (f0 : ByteArray) (f1 : Int) (f2 : Bool) (hB : Below w0.heap.size w0 W) : IsS99 w0 (W.alloc (.cells #[.string f0,.int .i64 f1,.bool f2] 99)) W.heap.size f0 f1 f2:=⟨by simpa using heap_alloc_new W _,hB.size⟩
def spec_l06Var.f (k : Nat) (s0_0 : ByteArray) (s0_1 : Int) (s0_2 : Bool) : Option (Int × ByteArray × Int × Bool):=(spec_ReadVar.f k s0_0 s0_1).bind fun bt663=>(if s0_2 = true then (some (0,s0_0,s0_1,true)) else (if bt663.2.2 = true then (some (bt663.1,s0_0,bt663.2.1,s0_2)) else (some (0,s0_0,s0_1,true))))
theorem spec_l06Var.mono : ∀ a0 a1 a2 k,LeO (spec_l06Var.f k a0 a1 a2) (spec_l06Var.f (k + 1) a0 a1 a2):=by
 intro a0 a1 a2 k;unfold spec_l06Var.f
 repeat' first
   | (with_reducible exact spec_ReadVar.mono _ _ _)
   | (with_reducible exact LeO.refl _)
   | (with_reducible exact LeO.none _)
   | (with_reducible refine LeO.ite ?_ ?_)
   | (with_reducible refine LeO.bind ?_ (fun _=>?_))
   | exact spec_ReadVar.mono _ _ _
   | exact LeO.none _
   | refine LeO.ite ?_ ?_
   | refine LeO.bind ?_ (fun _=>?_)
def spec_l06Var.T1 : Bool × List (List Nat × List Nat):=(true,[([],[]),([0],[0]),([1],[1]),([2],[2]),([],[]),([4],[4]),([5],[5]),([6],[6]),([3,7],[3,7]),([8],[8]),([9],[9]),([9],[9]),([9],[9]),([10,8,0,1,2,3,4,5,6,7,8,9,10],[10]),([11,13,0,1,2,3,4,5,6,7,8,9,10,11,13],[11]),([12,14,0,1,2,3,4,5,6,7,8,9,10,11,12,13,14],[12])])
def spec_l06Var.B1 : List Nat:=[0,1,3,7,0,16,48,112,255,511,1023,1023,1023,2047,12287,32767]
theorem spec_l06Var.tab1 : rtab .any (opsOf Try.f67 1) = spec_l06Var.T1:=by kernel_rfl
theorem spec_l06Var.bits1 : waitsOk spec_l06Var.T1.2 spec_l06Var.B1 = true:=by kernel_rfl
set_option maxHeartbeats 8000000 in
set_option maxRecDepth 100000 in
theorem spec_l06Var.calls (k : Nat) (g : Nat) (s0_0 : ByteArray) (s0_1 : Int) (s0_2 : Bool) (r1 : Int) (r2 : ByteArray) (r3 : Int) (r4 : Bool) (w0 w : World) (hI : IsS99 w0 w g s0_0 s0_1 s0_2) (hB : Below w0.heap.size w0 w) (h : spec_l06Var.f k s0_0 s0_1 s0_2 = some (r1,r2,r3,r4)) :
  Calls Try.prog 67 #[.pointer (some ⟨g,0,none⟩)] w fun e w'=>e = .returned (.int .i64 r1) ∧ IsS99 w0 w' g r2 r3 r4 ∧ Below w0.heap.size w0 w' ∧ KeepBut w w' g none:=by
 have HI0:=zMk hI;have HK:=zMk (KeepBut.refl w g none);have HL:=zMk hB.size;clear hI;have HW0:=zMk hB.size;have HB:=zMk hB;clear hB;have H : ((spec_ReadVar.f k s0_0 s0_1).bind fun bt663=>(if s0_2 = true then (some (0,s0_0,s0_1,true)) else (if bt663.2.2 = true then (some (bt663.1,s0_0,bt663.2.1,s0_2)) else (some (0,s0_0,s0_1,true))))) = some (r1,r2,r3,r4):=h;clear h;replace H:=Option.bind_eq_some_iff.mp H;obtain ⟨⟨t663,t664,t665⟩,A20,H⟩:=H;replace H : (if s0_2 = true then (some (0,s0_0,s0_1,true)) else (if t665 = true then (some (t663,s0_0,t664,s0_2)) else (some (0,s0_0,s0_1,true)))) = some (r1,r2,r3,r4):=H;have A2:=zMk A20;clear A20
 by_cases c3 : s0_2 = true
 ·subst c3;have H1 : (some (0,s0_0,s0_1,true)) = some (r1,r2,r3,r4):=by rw [if_pos rfl] at H;exact H
  clear H;have H:=H1;clear H1;simp only [Option.some.injEq,Prod.mk.injEq] at H;obtain ⟨rfl,rfl,rfl,rfl⟩:=H
  go_enter Try.func67,Try.ntmps67
  try go_wp2
  have n0_:=zMk (IsS99.drew HI0.out);have n1_:=zMk (keep_drew HK.out);have n2_:=zMk (below_drew1 HB.out);clear HI0;clear HK;clear HB;have HI0:=n0_;have HK:=n1_;have HB:=n2_;clear n0_ n1_ n2_;refine start_ (n:=16) (S:=fun w'=>w'.cell? ⟨g,0,none⟩ = some (.string s0_0) ∧ w'.cell? ⟨g,1,none⟩ = some (.int .i64 s0_1) ∧ w'.cell? ⟨g,2,none⟩ = some (.bool true)) (ds:=[]) #[false,false,false,false,false,false,false,false,false,false,false,false,false,false,false,false] (by kernel_rfl) rfl rfl ⟨cellS99_0 HI0.out.1,cellS99_1 HI0.out.1,cellS99_2 HI0.out.1⟩ (fun hHeld=>?_);refine with_tabW spec_l06Var.tab1 spec_l06Var.bits1 (fun HT_ HW_=>?_);generalize w.drew = w4 at HI0 HK HB hHeld ⊢;refine pure_ (i:=0) (N:=some 7) (v:=?_) (a':=?_) #[true,false,false,false,false,false,false,false,false,false,false,false,false,false,false,false] rfl rfl (any_of HT_.out (by kernel_rfl)) (fun _ _ _ h=>h) (Or.inl ⟨by rfl,?_⟩) ?_ ?_;rotate_left
  ·intro w';go_simp;with_reducible rfl
  rotate_left
  ·simp only [Act.put,zS1,zS2,zS3,i64_w,i32_w];rfl
  refine pure_ (i:=1) (N:=some 8) (v:=?_) (a':=?_) #[true,true,false,false,false,false,false,false,false,false,false,false,false,false,false,false] rfl rfl (any_of HT_.out (by kernel_rfl)) (fun _ _ _ h=>h) (Or.inl ⟨by rfl,?_⟩) ?_ ?_;rotate_left
  ·intro w';go_simp;with_reducible rfl
  rotate_left
  ·simp only [Act.put,zS1,zS2,zS3,i64_w,i32_w];rfl
  refine pure_ (i:=2) (N:=some 9) (v:=?_) (a':=?_) #[true,true,true,false,false,false,false,false,false,false,false,false,false,false,false,false] rfl rfl (any_of HT_.out (by kernel_rfl)) (fun _ _ _ h=>h) (Or.inl ⟨by rfl,?_⟩) ?_ ?_;rotate_left
  ·intro w';go_simp;with_reducible rfl
  rotate_left
  ·simp only [Act.put,zS1,zS2,zS3,i64_w,i32_w];rfl
  refine pure_ (i:=4) (N:=some 11) (v:=?_) (a':=?_) #[true,true,true,false,true,false,false,false,false,false,false,false,false,false,false,false] rfl rfl (any_of HT_.out (by kernel_rfl)) (fun _ _ _ h=>h) (Or.inl ⟨by rfl,?_⟩) ?_ ?_;rotate_left
  ·intro w';go_simp;with_reducible rfl
  rotate_left
  ·simp only [Act.put,zS1,zS2,zS3,i64_w,i32_w];rfl
  refine pure_ (i:=5) (N:=some 12) (v:=?_) (a':=?_) #[true,true,true,false,true,true,false,false,false,false,false,false,false,false,false,false] rfl rfl (any_of HT_.out (by kernel_rfl)) (fun _ _ _ h=>h) (Or.inl ⟨by rfl,?_⟩) ?_ ?_;rotate_left
  ·intro w';go_simp;with_reducible rfl
  rotate_left
  ·simp only [Act.put,zS1,zS2,zS3,i64_w,i32_w];rfl
  refine pure_ (i:=6) (N:=some 13) (v:=?_) (a':=?_) #[true,true,true,false,true,true,true,false,false,false,false,false,false,false,false,false] rfl rfl (any_of HT_.out (by kernel_rfl)) (fun _ _ _ h=>h) (Or.inl ⟨by rfl,?_⟩) ?_ ?_;rotate_left
  ·intro w';go_simp;with_reducible rfl
  rotate_left
  ·simp only [Act.put,zS1,zS2,zS3,i64_w,i32_w];rfl
  refine take_ (i:=3) (N:=some 10) (v:=?_) (a':=?_) #[true,true,true,true,true,true,true,false,false,false,false,false,false,false,false,false] rfl rfl (take_ofW HT_.out HW_.out (by kernel_rfl)) (fun _ _ _ h=>h) (Or.inl ⟨by rfl,?_⟩) hHeld ?_ ?_;rotate_left
  ·rintro w' ⟨s0,s1,s2⟩;go_simp;with_reducible rfl
  rotate_left
  ·simp only [Act.put,zS1,zS2,zS3,i64_w,i32_w];rfl
  refine take_ (i:=7) (N:=some 14) (v:=?_) (a':=?_) #[true,true,true,true,true,true,true,true,false,false,false,false,false,false,false,false] rfl rfl (take_ofW HT_.out HW_.out (by kernel_rfl)) (fun _ _ _ h=>h) (Or.inl ⟨by rfl,?_⟩) hHeld ?_ ?_;rotate_left
  ·rintro w' ⟨s0,s1,s2⟩;go_simp;with_reducible rfl
  rotate_left
  ·simp only [Act.put,zS1,zS2,zS3,i64_w,i32_w];rfl
  refine one_ (i:=8) (N:=some 15) #[true,true,true,true,true,true,true,true,true,false,false,false,false,false,false,false] rfl rfl (one_of HT_.out (by kernel_rfl)) (by decide) (fun K hK=>?_);refine goes_ Try.func80 (by kernel_rfl) rfl #[.string s0_0,.int .i64 s0_1] (by rfl) rfl rfl (by (try simp only [List.map_toArray,List.map_cons,List.map_nil]);first | done | rfl | (simp only [List.length_drop,List.length_take];rfl)) ?_;with_reducible refine (spec_ReadVar.calls k s0_0 s0_1 t663 t664 t665 _ A2.out).mono ?_
  rintro e w5 ⟨rfl,hb⟩;refine ⟨_,rfl,?_⟩;have n0_:=zMk (IsS99.below (by repeat (first | (with_reducible first | exact HI0.out | apply IsS99.alloc | apply IsS99.drewN | apply IsS99.drew | apply IsS99.set_0 | apply IsS99.set_1 | apply IsS99.set_2) | exact HI0.out)) hb);have n1_:=zMk (KeepBut.trans (by repeat (first | (with_reducible first | exact HK.out | apply KeepBut.set_ | apply keep_drewN | apply keep_drew | apply keep_alloc) | exact HK.out)) (KeepBut.of_below hb g none) (.inl rfl));have n2_:=zMk (below_step (by repeat (first | (with_reducible first | exact HB.out | apply below_alloc | apply pw_below_drewN | apply below_drew1 | refine below_set ?_ (IsS99.ge HI0.out)) | exact HB.out)) hb);clear HI0;clear HK;clear HB;have HI0:=n0_;have HK:=n1_;have HB:=n2_;clear n0_ n1_ n2_
  (try clear hb)
  (try clear hb2)
  (try clear hk)
  (try clear hi)
  refine hK.out _ _ ⟨cellS99_0 HI0.out.1,cellS99_1 HI0.out.1,cellS99_2 HI0.out.1⟩ (fun hHeld=>?_);clear hK K;refine norm_ (a':=?_) ?_ ?_;rotate_left
  ·show Act.put _ (some 15) _ = _;simp only [Act.put,zS1,zS2,zS3,i64_w,i32_w];rfl
  refine pure_ (i:=9) (N:=some 6) (v:=?_) (a':=?_) #[true,true,true,true,true,true,true,true,true,true,false,false,false,false,false,false] rfl rfl (any_of HT_.out (by kernel_rfl)) (fun _ _ _ h=>h) (Or.inl ⟨by rfl,?_⟩) ?_ ?_;rotate_left
  ·intro w';go_simp;with_reducible rfl
  rotate_left
  ·simp only [Act.put,zS1,zS2,zS3,i64_w,i32_w];rfl
  refine pure_ (i:=10) (N:=some 16) (v:=?_) (a':=?_) #[true,true,true,true,true,true,true,true,true,true,true,false,false,false,false,false] rfl rfl (any_of HT_.out (by kernel_rfl)) (fun _ _ _ h=>h) (Or.inl ⟨by rfl,?_⟩) ?_ ?_;rotate_left
  ·intro w';go_simp;with_reducible rfl
  rotate_left
  ·simp only [Act.put,zS1,zS2,zS3,i64_w,i32_w];rfl
  refine pure_ (i:=11) (N:=some 17) (v:=?_) (a':=?_) #[true,true,true,true,true,true,true,true,true,true,true,true,false,false,false,false] rfl rfl (any_of HT_.out (by kernel_rfl)) (fun _ _ _ h=>h) (Or.inl ⟨by rfl,?_⟩) ?_ ?_;rotate_left
  ·intro w';go_simp;with_reducible rfl
  rotate_left
  ·simp only [Act.put,zS1,zS2,zS3,i64_w,i32_w];rfl
  refine pure_ (i:=12) (N:=some 18) (v:=?_) (a':=?_) #[true,true,true,true,true,true,true,true,true,true,true,true,true,false,false,false] rfl rfl (any_of HT_.out (by kernel_rfl)) (fun _ _ _ h=>h) (Or.inl ⟨by rfl,?_⟩) ?_ ?_;rotate_left
  ·intro w';go_simp;with_reducible rfl
  rotate_left
  ·simp only [Act.put,zS1,zS2,zS3,i64_w,i32_w];rfl
  refine pure_ (i:=13) (N:=some 3) (v:=?_) (a':=?_) #[true,true,true,true,true,true,true,true,true,true,true,true,true,true,false,false] rfl rfl (any_of HT_.out (by kernel_rfl)) (fun _ _ _ h=>h) (Or.inl ⟨by rfl,?_⟩) ?_ ?_;rotate_left
  ·intro w';go_simp;with_reducible rfl
  rotate_left
  ·simp only [Act.put,zS1,zS2,zS3,i64_w,i32_w];rfl
  refine pure_ (i:=14) (N:=some 4) (v:=?_) (a':=?_) #[true,true,true,true,true,true,true,true,true,true,true,true,true,true,true,false] rfl rfl (any_of HT_.out (by kernel_rfl)) (fun _ _ _ h=>h) (Or.inl ⟨by rfl,?_⟩) ?_ ?_;rotate_left
  ·intro w';go_simp;with_reducible rfl
  rotate_left
  ·simp only [Act.put,zS1,zS2,zS3,i64_w,i32_w];rfl
  refine pure_ (i:=15) (N:=some 5) (v:=?_) (a':=?_) #[true,true,true,true,true,true,true,true,true,true,true,true,true,true,true,true] rfl rfl (any_of HT_.out (by kernel_rfl)) (fun _ _ _ h=>h) (Or.inl ⟨by rfl,?_⟩) ?_ ?_;rotate_left
  ·intro w';go_simp;with_reducible rfl
  rotate_left
  ·simp only [Act.put,zS1,zS2,zS3,i64_w,i32_w];rfl
  refine done_ (done_of HT_.out (by kernel_rfl)) ?_;obtain ⟨HGz6,hgz6⟩:=HI0.out;have hcz6_0:=cellS99_0 HGz6;have hcz6_1:=cellS99_1 HGz6;have hcz6_2:=cellS99_2 HGz6;have hfz6_0:=zFr HGz6 0;have hfz6_1:=zFr HGz6 1;have hfz6_2:=zFr HGz6 2;clear HGz6 hgz6
  try go_wp2
  go_ret
  exact ⟨by first | rfl | (simp [errW_none,errW_some] <;> rfl) | (simp [*,errW_none,errW_some] <;> rfl),by repeat (first | (with_reducible first | exact HI0.out | apply IsS99.alloc | apply IsS99.drewN | apply IsS99.drew | apply IsS99.set_0 | apply IsS99.set_1 | apply IsS99.set_2) | exact HI0.out),by repeat (first | (with_reducible first | exact HB.out | apply below_alloc | apply pw_below_drewN | apply below_drew1 | refine below_set ?_ (IsS99.ge HI0.out)) | exact HB.out),by repeat (first | (with_reducible first | exact HK.out | apply KeepBut.set_ | apply keep_drewN | apply keep_drew | apply keep_alloc) | exact HK.out)⟩
 replace c3:=Bool.eq_false_iff.mpr c3;subst c3;have H1 : (if t665 = true then (some (t663,s0_0,t664,false)) else (some (0,s0_0,s0_1,true))) = some (r1,r2,r3,r4):=by rw [if_neg (show ¬ (false = true) by decide)] at H;exact H
 clear H;have H:=H1;clear H1
 by_cases c7 : t665 = true
 ·subst c7;have H1 : (some (t663,s0_0,t664,false)) = some (r1,r2,r3,r4):=by rw [if_pos rfl] at H;exact H
  clear H;have H:=H1;clear H1;simp only [Option.some.injEq,Prod.mk.injEq] at H;obtain ⟨rfl,rfl,rfl,rfl⟩:=H
  go_enter Try.func67,Try.ntmps67
  try go_wp2
  have n0_:=zMk (IsS99.drew HI0.out);have n1_:=zMk (keep_drew HK.out);have n2_:=zMk (below_drew1 HB.out);clear HI0;clear HK;clear HB;have HI0:=n0_;have HK:=n1_;have HB:=n2_;clear n0_ n1_ n2_;refine start_ (n:=16) (S:=fun w'=>w'.cell? ⟨g,0,none⟩ = some (.string s0_0) ∧ w'.cell? ⟨g,1,none⟩ = some (.int .i64 s0_1) ∧ w'.cell? ⟨g,2,none⟩ = some (.bool false)) (ds:=[]) #[false,false,false,false,false,false,false,false,false,false,false,false,false,false,false,false] (by kernel_rfl) rfl rfl ⟨cellS99_0 HI0.out.1,cellS99_1 HI0.out.1,cellS99_2 HI0.out.1⟩ (fun hHeld=>?_);refine with_tabW spec_l06Var.tab1 spec_l06Var.bits1 (fun HT_ HW_=>?_);generalize w.drew = w8 at HI0 HK HB hHeld ⊢;refine pure_ (i:=0) (N:=some 7) (v:=?_) (a':=?_) #[true,false,false,false,false,false,false,false,false,false,false,false,false,false,false,false] rfl rfl (any_of HT_.out (by kernel_rfl)) (fun _ _ _ h=>h) (Or.inl ⟨by rfl,?_⟩) ?_ ?_;rotate_left
  ·intro w';go_simp;with_reducible rfl
  rotate_left
  ·simp only [Act.put,zS1,zS2,zS3,i64_w,i32_w];rfl
  refine pure_ (i:=1) (N:=some 8) (v:=?_) (a':=?_) #[true,true,false,false,false,false,false,false,false,false,false,false,false,false,false,false] rfl rfl (any_of HT_.out (by kernel_rfl)) (fun _ _ _ h=>h) (Or.inl ⟨by rfl,?_⟩) ?_ ?_;rotate_left
  ·intro w';go_simp;with_reducible rfl
  rotate_left
  ·simp only [Act.put,zS1,zS2,zS3,i64_w,i32_w];rfl
  refine pure_ (i:=2) (N:=some 9) (v:=?_) (a':=?_) #[true,true,true,false,false,false,false,false,false,false,false,false,false,false,false,false] rfl rfl (any_of HT_.out (by kernel_rfl)) (fun _ _ _ h=>h) (Or.inl ⟨by rfl,?_⟩) ?_ ?_;rotate_left
  ·intro w';go_simp;with_reducible rfl
  rotate_left
  ·simp only [Act.put,zS1,zS2,zS3,i64_w,i32_w];rfl
  refine pure_ (i:=4) (N:=some 11) (v:=?_) (a':=?_) #[true,true,true,false,true,false,false,false,false,false,false,false,false,false,false,false] rfl rfl (any_of HT_.out (by kernel_rfl)) (fun _ _ _ h=>h) (Or.inl ⟨by rfl,?_⟩) ?_ ?_;rotate_left
  ·intro w';go_simp;with_reducible rfl
  rotate_left
  ·simp only [Act.put,zS1,zS2,zS3,i64_w,i32_w];rfl
  refine pure_ (i:=5) (N:=some 12) (v:=?_) (a':=?_) #[true,true,true,false,true,true,false,false,false,false,false,false,false,false,false,false] rfl rfl (any_of HT_.out (by kernel_rfl)) (fun _ _ _ h=>h) (Or.inl ⟨by rfl,?_⟩) ?_ ?_;rotate_left
  ·intro w';go_simp;with_reducible rfl
  rotate_left
  ·simp only [Act.put,zS1,zS2,zS3,i64_w,i32_w];rfl
  refine pure_ (i:=6) (N:=some 13) (v:=?_) (a':=?_) #[true,true,true,false,true,true,true,false,false,false,false,false,false,false,false,false] rfl rfl (any_of HT_.out (by kernel_rfl)) (fun _ _ _ h=>h) (Or.inl ⟨by rfl,?_⟩) ?_ ?_;rotate_left
  ·intro w';go_simp;with_reducible rfl
  rotate_left
  ·simp only [Act.put,zS1,zS2,zS3,i64_w,i32_w];rfl
  refine take_ (i:=3) (N:=some 10) (v:=?_) (a':=?_) #[true,true,true,true,true,true,true,false,false,false,false,false,false,false,false,false] rfl rfl (take_ofW HT_.out HW_.out (by kernel_rfl)) (fun _ _ _ h=>h) (Or.inl ⟨by rfl,?_⟩) hHeld ?_ ?_;rotate_left
  ·rintro w' ⟨s0,s1,s2⟩;go_simp;with_reducible rfl
  rotate_left
  ·simp only [Act.put,zS1,zS2,zS3,i64_w,i32_w];rfl
  refine take_ (i:=7) (N:=some 14) (v:=?_) (a':=?_) #[true,true,true,true,true,true,true,true,false,false,false,false,false,false,false,false] rfl rfl (take_ofW HT_.out HW_.out (by kernel_rfl)) (fun _ _ _ h=>h) (Or.inl ⟨by rfl,?_⟩) hHeld ?_ ?_;rotate_left
  ·rintro w' ⟨s0,s1,s2⟩;go_simp;with_reducible rfl
  rotate_left
  ·simp only [Act.put,zS1,zS2,zS3,i64_w,i32_w];rfl
  refine one_ (i:=8) (N:=some 15) #[true,true,true,true,true,true,true,true,true,false,false,false,false,false,false,false] rfl rfl (one_of HT_.out (by kernel_rfl)) (by decide) (fun K hK=>?_);refine goes_ Try.func80 (by kernel_rfl) rfl #[.string s0_0,.int .i64 s0_1] (by rfl) rfl rfl (by (try simp only [List.map_toArray,List.map_cons,List.map_nil]);first | done | rfl | (simp only [List.length_drop,List.length_take];rfl)) ?_;with_reducible refine (spec_ReadVar.calls k s0_0 s0_1 t663 t664 true _ A2.out).mono ?_
  rintro e w9 ⟨rfl,hb⟩;refine ⟨_,rfl,?_⟩;have n0_:=zMk (IsS99.below (by repeat (first | (with_reducible first | exact HI0.out | apply IsS99.alloc | apply IsS99.drewN | apply IsS99.drew | apply IsS99.set_0 | apply IsS99.set_1 | apply IsS99.set_2) | exact HI0.out)) hb);have n1_:=zMk (KeepBut.trans (by repeat (first | (with_reducible first | exact HK.out | apply KeepBut.set_ | apply keep_drewN | apply keep_drew | apply keep_alloc) | exact HK.out)) (KeepBut.of_below hb g none) (.inl rfl));have n2_:=zMk (below_step (by repeat (first | (with_reducible first | exact HB.out | apply below_alloc | apply pw_below_drewN | apply below_drew1 | refine below_set ?_ (IsS99.ge HI0.out)) | exact HB.out)) hb);clear HI0;clear HK;clear HB;have HI0:=n0_;have HK:=n1_;have HB:=n2_;clear n0_ n1_ n2_
  (try clear hb)
  (try clear hb2)
  (try clear hk)
  (try clear hi)
  refine hK.out _ _ ⟨cellS99_0 HI0.out.1,cellS99_1 HI0.out.1,cellS99_2 HI0.out.1⟩ (fun hHeld=>?_);clear hK K;refine norm_ (a':=?_) ?_ ?_;rotate_left
  ·show Act.put _ (some 15) _ = _;simp only [Act.put,zS1,zS2,zS3,i64_w,i32_w];rfl
  refine pure_ (i:=9) (N:=some 6) (v:=?_) (a':=?_) #[true,true,true,true,true,true,true,true,true,true,false,false,false,false,false,false] rfl rfl (any_of HT_.out (by kernel_rfl)) (fun _ _ _ h=>h) (Or.inl ⟨by rfl,?_⟩) ?_ ?_;rotate_left
  ·intro w';go_simp;with_reducible rfl
  rotate_left
  ·simp only [Act.put,zS1,zS2,zS3,i64_w,i32_w];rfl
  refine pure_ (i:=10) (N:=some 16) (v:=?_) (a':=?_) #[true,true,true,true,true,true,true,true,true,true,true,false,false,false,false,false] rfl rfl (any_of HT_.out (by kernel_rfl)) (fun _ _ _ h=>h) (Or.inl ⟨by rfl,?_⟩) ?_ ?_;rotate_left
  ·intro w';go_simp;with_reducible rfl
  rotate_left
  ·simp only [Act.put,zS1,zS2,zS3,i64_w,i32_w];rfl
  refine pure_ (i:=11) (N:=some 17) (v:=?_) (a':=?_) #[true,true,true,true,true,true,true,true,true,true,true,true,false,false,false,false] rfl rfl (any_of HT_.out (by kernel_rfl)) (fun _ _ _ h=>h) (Or.inl ⟨by rfl,?_⟩) ?_ ?_;rotate_left
  ·intro w';go_simp;with_reducible rfl
  rotate_left
  ·simp only [Act.put,zS1,zS2,zS3,i64_w,i32_w];rfl
  refine pure_ (i:=12) (N:=some 18) (v:=?_) (a':=?_) #[true,true,true,true,true,true,true,true,true,true,true,true,true,false,false,false] rfl rfl (any_of HT_.out (by kernel_rfl)) (fun _ _ _ h=>h) (Or.inl ⟨by rfl,?_⟩) ?_ ?_;rotate_left
  ·intro w';go_simp;with_reducible rfl
  rotate_left
  ·simp only [Act.put,zS1,zS2,zS3,i64_w,i32_w];rfl
  refine pure_ (i:=13) (N:=some 3) (v:=?_) (a':=?_) #[true,true,true,true,true,true,true,true,true,true,true,true,true,true,false,false] rfl rfl (any_of HT_.out (by kernel_rfl)) (fun _ _ _ h=>h) (Or.inl ⟨by rfl,?_⟩) ?_ ?_;rotate_left
  ·intro w';go_simp;with_reducible rfl
  rotate_left
  ·simp only [Act.put,zS1,zS2,zS3,i64_w,i32_w];rfl
  refine pure_ (i:=14) (N:=some 4) (v:=?_) (a':=?_) #[true,true,true,true,true,true,true,true,true,true,true,true,true,true,true,false] rfl rfl (any_of HT_.out (by kernel_rfl)) (fun _ _ _ h=>h) (Or.inl ⟨by rfl,?_⟩) ?_ ?_;rotate_left
  ·intro w';go_simp;with_reducible rfl
  rotate_left
  ·simp only [Act.put,zS1,zS2,zS3,i64_w,i32_w];rfl
  refine pure_ (i:=15) (N:=some 5) (v:=?_) (a':=?_) #[true,true,true,true,true,true,true,true,true,true,true,true,true,true,true,true] rfl rfl (any_of HT_.out (by kernel_rfl)) (fun _ _ _ h=>h) (Or.inl ⟨by rfl,?_⟩) ?_ ?_;rotate_left
  ·intro w';go_simp;with_reducible rfl
  rotate_left
  ·simp only [Act.put,zS1,zS2,zS3,i64_w,i32_w];rfl
  refine done_ (done_of HT_.out (by kernel_rfl)) ?_;obtain ⟨HGz10,hgz10⟩:=HI0.out;have hcz10_0:=cellS99_0 HGz10;have hcz10_1:=cellS99_1 HGz10;have hcz10_2:=cellS99_2 HGz10;have hfz10_0:=zFr HGz10 0;have hfz10_1:=zFr HGz10 1;have hfz10_2:=zFr HGz10 2;clear HGz10 hgz10
  try go_wp2
  go_ret
  exact ⟨by first | rfl | (simp [errW_none,errW_some] <;> rfl) | (simp [*,errW_none,errW_some] <;> rfl),by repeat (first | (with_reducible first | exact HI0.out | apply IsS99.alloc | apply IsS99.drewN | apply IsS99.drew | apply IsS99.set_0 | apply IsS99.set_1 | apply IsS99.set_2) | exact HI0.out),by repeat (first | (with_reducible first | exact HB.out | apply below_alloc | apply pw_below_drewN | apply below_drew1 | refine below_set ?_ (IsS99.ge HI0.out)) | exact HB.out),by repeat (first | (with_reducible first | exact HK.out | apply KeepBut.set_ | apply keep_drewN | apply keep_drew | apply keep_alloc) | exact HK.out)⟩
 replace c7:=Bool.eq_false_iff.mpr c7;subst c7;have H1 : (some (0,s0_0,s0_1,true)) = some (r1,r2,r3,r4):=by rw [if_neg (show ¬ (false = true) by decide)] at H;exact H
 clear H;have H:=H1;clear H1;simp only [Option.some.injEq,Prod.mk.injEq] at H;obtain ⟨rfl,rfl,rfl,rfl⟩:=H
 go_enter Try.func67,Try.ntmps67
 try go_wp2
 have n0_:=zMk (IsS99.drew HI0.out);have n1_:=zMk (keep_drew HK.out);have n2_:=zMk (below_drew1 HB.out);clear HI0;clear HK;clear HB;have HI0:=n0_;have HK:=n1_;have HB:=n2_;clear n0_ n1_ n2_;refine start_ (n:=16) (S:=fun w'=>w'.cell? ⟨g,0,none⟩ = some (.string s0_0) ∧ w'.cell? ⟨g,1,none⟩ = some (.int .i64 s0_1) ∧ w'.cell? ⟨g,2,none⟩ = some (.bool false)) (ds:=[]) #[false,false,false,false,false,false,false,false,false,false,false,false,false,false,false,false] (by kernel_rfl) rfl rfl ⟨cellS99_0 HI0.out.1,cellS99_1 HI0.out.1,cellS99_2 HI0.out.1⟩ (fun hHeld=>?_);refine with_tabW spec_l06Var.tab1 spec_l06Var.bits1 (fun HT_ HW_=>?_);generalize w.drew = w11 at HI0 HK HB hHeld ⊢;refine pure_ (i:=0) (N:=some 7) (v:=?_) (a':=?_) #[true,false,false,false,false,false,false,false,false,false,false,false,false,false,false,false] rfl rfl (any_of HT_.out (by kernel_rfl)) (fun _ _ _ h=>h) (Or.inl ⟨by rfl,?_⟩) ?_ ?_;rotate_left
 ·intro w';go_simp;with_reducible rfl
 rotate_left
 ·simp only [Act.put,zS1,zS2,zS3,i64_w,i32_w];rfl
 refine pure_ (i:=1) (N:=some 8) (v:=?_) (a':=?_) #[true,true,false,false,false,false,false,false,false,false,false,false,false,false,false,false] rfl rfl (any_of HT_.out (by kernel_rfl)) (fun _ _ _ h=>h) (Or.inl ⟨by rfl,?_⟩) ?_ ?_;rotate_left
 ·intro w';go_simp;with_reducible rfl
 rotate_left
 ·simp only [Act.put,zS1,zS2,zS3,i64_w,i32_w];rfl
 refine pure_ (i:=2) (N:=some 9) (v:=?_) (a':=?_) #[true,true,true,false,false,false,false,false,false,false,false,false,false,false,false,false] rfl rfl (any_of HT_.out (by kernel_rfl)) (fun _ _ _ h=>h) (Or.inl ⟨by rfl,?_⟩) ?_ ?_;rotate_left
 ·intro w';go_simp;with_reducible rfl
 rotate_left
 ·simp only [Act.put,zS1,zS2,zS3,i64_w,i32_w];rfl
 refine pure_ (i:=4) (N:=some 11) (v:=?_) (a':=?_) #[true,true,true,false,true,false,false,false,false,false,false,false,false,false,false,false] rfl rfl (any_of HT_.out (by kernel_rfl)) (fun _ _ _ h=>h) (Or.inl ⟨by rfl,?_⟩) ?_ ?_;rotate_left
 ·intro w';go_simp;with_reducible rfl
 rotate_left
 ·simp only [Act.put,zS1,zS2,zS3,i64_w,i32_w];rfl
 refine pure_ (i:=5) (N:=some 12) (v:=?_) (a':=?_) #[true,true,true,false,true,true,false,false,false,false,false,false,false,false,false,false] rfl rfl (any_of HT_.out (by kernel_rfl)) (fun _ _ _ h=>h) (Or.inl ⟨by rfl,?_⟩) ?_ ?_;rotate_left
 ·intro w';go_simp;with_reducible rfl
 rotate_left
 ·simp only [Act.put,zS1,zS2,zS3,i64_w,i32_w];rfl
 refine pure_ (i:=6) (N:=some 13) (v:=?_) (a':=?_) #[true,true,true,false,true,true,true,false,false,false,false,false,false,false,false,false] rfl rfl (any_of HT_.out (by kernel_rfl)) (fun _ _ _ h=>h) (Or.inl ⟨by rfl,?_⟩) ?_ ?_;rotate_left
 ·intro w';go_simp;with_reducible rfl
 rotate_left
 ·simp only [Act.put,zS1,zS2,zS3,i64_w,i32_w];rfl
 refine take_ (i:=3) (N:=some 10) (v:=?_) (a':=?_) #[true,true,true,true,true,true,true,false,false,false,false,false,false,false,false,false] rfl rfl (take_ofW HT_.out HW_.out (by kernel_rfl)) (fun _ _ _ h=>h) (Or.inl ⟨by rfl,?_⟩) hHeld ?_ ?_;rotate_left
 ·rintro w' ⟨s0,s1,s2⟩;go_simp;with_reducible rfl
 rotate_left
 ·simp only [Act.put,zS1,zS2,zS3,i64_w,i32_w];rfl
 refine take_ (i:=7) (N:=some 14) (v:=?_) (a':=?_) #[true,true,true,true,true,true,true,true,false,false,false,false,false,false,false,false] rfl rfl (take_ofW HT_.out HW_.out (by kernel_rfl)) (fun _ _ _ h=>h) (Or.inl ⟨by rfl,?_⟩) hHeld ?_ ?_;rotate_left
 ·rintro w' ⟨s0,s1,s2⟩;go_simp;with_reducible rfl
 rotate_left
 ·simp only [Act.put,zS1,zS2,zS3,i64_w,i32_w];rfl
 refine one_ (i:=8) (N:=some 15) #[true,true,true,true,true,true,true,true,true,false,false,false,false,false,false,false] rfl rfl (one_of HT_.out (by kernel_rfl)) (by decide) (fun K hK=>?_);refine goes_ Try.func80 (by kernel_rfl) rfl #[.string s0_0,.int .i64 s0_1] (by rfl) rfl rfl (by (try simp only [List.map_toArray,List.map_cons,List.map_nil]);first | done | rfl | (simp only [List.length_drop,List.length_take];rfl)) ?_;with_reducible refine (spec_ReadVar.calls k s0_0 s0_1 t663 t664 false _ A2.out).mono ?_
 rintro e w12 ⟨rfl,hb⟩;refine ⟨_,rfl,?_⟩;have n0_:=zMk (IsS99.below (by repeat (first | (with_reducible first | exact HI0.out | apply IsS99.alloc | apply IsS99.drewN | apply IsS99.drew | apply IsS99.set_0 | apply IsS99.set_1 | apply IsS99.set_2) | exact HI0.out)) hb);have n1_:=zMk (KeepBut.trans (by repeat (first | (with_reducible first | exact HK.out | apply KeepBut.set_ | apply keep_drewN | apply keep_drew | apply keep_alloc) | exact HK.out)) (KeepBut.of_below hb g none) (.inl rfl));have n2_:=zMk (below_step (by repeat (first | (with_reducible first | exact HB.out | apply below_alloc | apply pw_below_drewN | apply below_drew1 | refine below_set ?_ (IsS99.ge HI0.out)) | exact HB.out)) hb);clear HI0;clear HK;clear HB;have HI0:=n0_;have HK:=n1_;have HB:=n2_;clear n0_ n1_ n2_
 (try clear hb)
 (try clear hb2)
 (try clear hk)
 (try clear hi)
 refine hK.out _ _ ⟨cellS99_0 HI0.out.1,cellS99_1 HI0.out.1,cellS99_2 HI0.out.1⟩ (fun hHeld=>?_);clear hK K;refine norm_ (a':=?_) ?_ ?_;rotate_left
 ·show Act.put _ (some 15) _ = _;simp only [Act.put,zS1,zS2,zS3,i64_w,i32_w];rfl
 refine pure_ (i:=9) (N:=some 6) (v:=?_) (a':=?_) #[true,true,true,true,true,true,true,true,true,true,false,false,false,false,false,false] rfl rfl (any_of HT_.out (by kernel_rfl)) (fun _ _ _ h=>h) (Or.inl ⟨by rfl,?_⟩) ?_ ?_;rotate_left
 ·intro w';go_simp;with_reducible rfl
 rotate_left
 ·simp only [Act.put,zS1,zS2,zS3,i64_w,i32_w];rfl
 refine pure_ (i:=10) (N:=some 16) (v:=?_) (a':=?_) #[true,true,true,true,true,true,true,true,true,true,true,false,false,false,false,false] rfl rfl (any_of HT_.out (by kernel_rfl)) (fun _ _ _ h=>h) (Or.inl ⟨by rfl,?_⟩) ?_ ?_;rotate_left
 ·intro w';go_simp;with_reducible rfl
 rotate_left
 ·simp only [Act.put,zS1,zS2,zS3,i64_w,i32_w];rfl
 refine pure_ (i:=11) (N:=some 17) (v:=?_) (a':=?_) #[true,true,true,true,true,true,true,true,true,true,true,true,false,false,false,false] rfl rfl (any_of HT_.out (by kernel_rfl)) (fun _ _ _ h=>h) (Or.inl ⟨by rfl,?_⟩) ?_ ?_;rotate_left
 ·intro w';go_simp;with_reducible rfl
 rotate_left
 ·simp only [Act.put,zS1,zS2,zS3,i64_w,i32_w];rfl
 refine pure_ (i:=12) (N:=some 18) (v:=?_) (a':=?_) #[true,true,true,true,true,true,true,true,true,true,true,true,true,false,false,false] rfl rfl (any_of HT_.out (by kernel_rfl)) (fun _ _ _ h=>h) (Or.inl ⟨by rfl,?_⟩) ?_ ?_;rotate_left
 ·intro w';go_simp;with_reducible rfl
 rotate_left
 ·simp only [Act.put,zS1,zS2,zS3,i64_w,i32_w];rfl
 refine pure_ (i:=13) (N:=some 3) (v:=?_) (a':=?_) #[true,true,true,true,true,true,true,true,true,true,true,true,true,true,false,false] rfl rfl (any_of HT_.out (by kernel_rfl)) (fun _ _ _ h=>h) (Or.inl ⟨by rfl,?_⟩) ?_ ?_;rotate_left
 ·intro w';go_simp;with_reducible rfl
 rotate_left
 ·simp only [Act.put,zS1,zS2,zS3,i64_w,i32_w];rfl
 refine pure_ (i:=14) (N:=some 4) (v:=?_) (a':=?_) #[true,true,true,true,true,true,true,true,true,true,true,true,true,true,true,false] rfl rfl (any_of HT_.out (by kernel_rfl)) (fun _ _ _ h=>h) (Or.inl ⟨by rfl,?_⟩) ?_ ?_;rotate_left
 ·intro w';go_simp;with_reducible rfl
 rotate_left
 ·simp only [Act.put,zS1,zS2,zS3,i64_w,i32_w];rfl
 refine pure_ (i:=15) (N:=some 5) (v:=?_) (a':=?_) #[true,true,true,true,true,true,true,true,true,true,true,true,true,true,true,true] rfl rfl (any_of HT_.out (by kernel_rfl)) (fun _ _ _ h=>h) (Or.inl ⟨by rfl,?_⟩) ?_ ?_;rotate_left
 ·intro w';go_simp;with_reducible rfl
 rotate_left
 ·simp only [Act.put,zS1,zS2,zS3,i64_w,i32_w];rfl
 refine done_ (done_of HT_.out (by kernel_rfl)) ?_;obtain ⟨HGz13,hgz13⟩:=HI0.out;have hcz13_0:=cellS99_0 HGz13;have hcz13_1:=cellS99_1 HGz13;have hcz13_2:=cellS99_2 HGz13;have hfz13_0:=zFr HGz13 0;have hfz13_1:=zFr HGz13 1;have hfz13_2:=zFr HGz13 2;clear HGz13 hgz13
 try go_wp2
 go_ret
 exact ⟨by first | rfl | (simp [errW_none,errW_some] <;> rfl) | (simp [*,errW_none,errW_some] <;> rfl),by repeat (first | (with_reducible first | exact HI0.out | apply IsS99.alloc | apply IsS99.drewN | apply IsS99.drew | apply IsS99.set_0 | apply IsS99.set_1 | apply IsS99.set_2) | exact HI0.out),by repeat (first | (with_reducible first | exact HB.out | apply below_alloc | apply pw_below_drewN | apply below_drew1 | refine below_set ?_ (IsS99.ge HI0.out)) | exact HB.out),by repeat (first | (with_reducible first | exact HK.out | apply KeepBut.set_ | apply keep_drewN | apply keep_drew | apply keep_alloc) | exact HK.out)⟩
mutual
def spec_ReadRecs.l0 : Nat → ByteArray → List (S45) → ByteArray → Int → Bool → Option ((List (S45)) × Bool)
 | 0,_,_,_,_,_=>none
 | k + 1,x0,x4,x670000,x670001,x670002=>if x670001 < (x0.size : Int) then (spec_ReadRecs.j1 k x0 x4 (!x670002) x670000 x670001 x670002) else (spec_ReadRecs.j1 k x0 x4 false x670000 x670001 x670002)
def spec_ReadRecs.j1 : Nat → ByteArray → List (S45) → Bool → ByteArray → Int → Bool → Option ((List (S45)) × Bool)
 | 0,_,_,_,_,_,_=>none
 | k + 1,x0,x4,x25,x670000,x670001,x670002=>if x25 = true then (if 0 ≤ x670001 then (if x670001 < (x0.size : Int) then ((spec_l06Var.f k x670000 (wrap64 (x670001 + 1)) x670002).bind fun bt670=>((spec_l06Var.f k bt670.2.1 bt670.2.2.1 bt670.2.2.2).bind fun bt675=>(if bt675.2.2.2 = true then (some ((([] : List (S45))),false)) else ((spec_RecOk.f k (wrap64 (Int.tdiv (wrap64 (bt x0 x670001)) 16)) (Int.tmod (wrap64 (bt x0 x670001)) 16) bt670.1 bt675.1).bind fun t682=>(if t682 = true then (if x4.length < 4398046511104 then (spec_ReadRecs.l0 k x0 (x4 ++ [(⟨wrap64 (Int.tdiv (wrap64 (bt x0 x670001)) 16),Int.tmod (wrap64 (bt x0 x670001)) 16,bt670.1,bt675.1⟩ : S45)]) bt675.2.1 bt675.2.2.1 bt675.2.2.2) else (none)) else (some ((([] : List (S45))),false))))))) else (none)) else (none)) else (some (x4,true))
end
def spec_ReadRecs.f (k : Nat) (a0 : ByteArray) : Option ((List (S45)) × Bool):=spec_ReadRecs.l0 k a0 (([] : List (S45))) a0 0 false
theorem spec_ReadRecs.mono_l : ∀ k,(∀ y0 y1 y2 y3 y4,LeO (spec_ReadRecs.l0 k y0 y1 y2 y3 y4) (spec_ReadRecs.l0 (k + 1) y0 y1 y2 y3 y4)) ∧ (∀ y0 y1 y2 y3 y4 y5,LeO (spec_ReadRecs.j1 k y0 y1 y2 y3 y4 y5) (spec_ReadRecs.j1 (k + 1) y0 y1 y2 y3 y4 y5))
 | 0=>⟨fun _ _ _ _ _ r h=>by simp [spec_ReadRecs.l0] at h,fun _ _ _ _ _ _ r h=>by simp [spec_ReadRecs.j1] at h⟩
 | k + 1=>by
  obtain ⟨ih0,ih1⟩:=spec_ReadRecs.mono_l k;refine ⟨?_,?_⟩
  ·intro y0 y1 y2 y3 y4;unfold spec_ReadRecs.l0
   repeat' first
   | (with_reducible exact ih0 _ _ _ _ _)
   | (with_reducible exact ih1 _ _ _ _ _ _)
   | (with_reducible exact spec_RecOk.mono _ _ _ _ _)
   | (with_reducible exact spec_l06Var.mono _ _ _ _)
   | (with_reducible exact LeO.refl _)
   | (with_reducible exact LeO.none _)
   | (with_reducible refine LeO.ite ?_ ?_)
   | (with_reducible refine LeO.bind ?_ (fun _=>?_))
   | exact ih0 _ _ _ _ _
   | exact ih1 _ _ _ _ _ _
   | exact spec_RecOk.mono _ _ _ _ _
   | exact spec_l06Var.mono _ _ _ _
   | exact LeO.none _
   | refine LeO.ite ?_ ?_
   | refine LeO.bind ?_ (fun _=>?_)
  intro y0 y1 y2 y3 y4 y5;unfold spec_ReadRecs.j1
  repeat' first
  | (with_reducible exact ih0 _ _ _ _ _)
  | (with_reducible exact ih1 _ _ _ _ _ _)
  | (with_reducible exact spec_RecOk.mono _ _ _ _ _)
  | (with_reducible exact spec_l06Var.mono _ _ _ _)
  | (with_reducible exact LeO.refl _)
  | (with_reducible exact LeO.none _)
  | (with_reducible refine LeO.ite ?_ ?_)
  | (with_reducible refine LeO.bind ?_ (fun _=>?_))
  | exact ih0 _ _ _ _ _
  | exact ih1 _ _ _ _ _ _
  | exact spec_RecOk.mono _ _ _ _ _
  | exact spec_l06Var.mono _ _ _ _
  | exact LeO.none _
  | refine LeO.ite ?_ ?_
  | refine LeO.bind ?_ (fun _=>?_)
theorem spec_ReadRecs.mono : ∀ a0 k,LeO (spec_ReadRecs.f k a0) (spec_ReadRecs.f (k + 1) a0):=by
 intro a0 k;obtain ⟨ih0,ih1⟩:=spec_ReadRecs.mono_l k;unfold spec_ReadRecs.f
 repeat' first
   | (with_reducible exact ih0 _ _ _ _ _)
   | (with_reducible exact ih1 _ _ _ _ _ _)
   | (with_reducible exact spec_RecOk.mono _ _ _ _ _)
   | (with_reducible exact spec_l06Var.mono _ _ _ _)
   | (with_reducible exact LeO.refl _)
   | (with_reducible exact LeO.none _)
   | (with_reducible refine LeO.ite ?_ ?_)
   | (with_reducible refine LeO.bind ?_ (fun _=>?_))
   | exact ih0 _ _ _ _ _
   | exact ih1 _ _ _ _ _ _
   | exact spec_RecOk.mono _ _ _ _ _
   | exact spec_l06Var.mono _ _ _ _
   | exact LeO.none _
   | refine LeO.ite ?_ ?_
   | refine LeO.bind ?_ (fun _=>?_)
set_option maxHeartbeats 8000000 in
set_option maxRecDepth 100000 in
theorem spec_ReadRecs.calls (k : Nat) (a0 : ByteArray) (r1 : List (S45)) (r2 : Bool) (w : World) (h : spec_ReadRecs.f k a0 = some (r1,r2)) :
  Calls Try.prog 57 #[.string a0] w fun e w'=>∃ v0_ : Value,e = .returned (.tuple #[v0_,.bool r2]) ∧ Kd.R k45 45 w' w.heap.size (fun _=>True) v0_ r1 ∧ Below w.heap.size w w':=by
 have hu99:=Try.underlying99;have hu45:=Try.underlying45;have HB:=zMk (Below.refl w.heap.size w);have H : (spec_ReadRecs.l0 k a0 (([] : List (S45))) a0 0 false) = some (r1,r2):=h;clear h;obtain ⟨y666,hy666⟩ : ∃ y_ : List (S45),y_ = (([] : List (S45))):=⟨_,rfl⟩;replace H : (spec_ReadRecs.l0 k a0 y666 a0 0 false) = some (r1,r2):=by first | (rw [hy666];with_reducible exact H) | (have H2_:=(Option.bind_some _ _).symm.trans H;rw [hy666];with_reducible exact H2_) | (have H2_:=(Option.bind_some _ _).symm.trans H;with_reducible exact H2_) | with_reducible exact H | (rw [hy666];exact H) | exact H
 have Ny666:=zMk hy666;clear hy666;have H':=zMk H;clear H
 go_enter Try.func57,Try.ntmps57
 go_wp2_with (first | ((with_reducible refine gate_dst (N:=8) rfl ?_);refine Kd.R_lit k45 _ 45 ?hg (N:=8) ?hd (xs:=([] : List (S45))) (inner:=[]) (ok:=fun _=>True) (okp:=fun _=>True) ?hr ?hp (fun _ hk=>hk) trivial (Below.refl _ _) (Nat.le_refl _) (by simp) ?_;(case hd=>rfl);(case hg=>rfl);(case hr=>first | (go_simp;done) | (go_simp;rfl));(case hp=>exact (Reps.none _ _));intro v667 w2 ho3 hb hg_ hnew_;clear hg_ hnew_;(first | rw [← Ny666.out] at ho3 | (simp only [Int.reduceToNat] at ho3;rw [← Ny666.out] at ho3));have n0_:=zMk (Kd.R_lower ho3 (below_size (hs HB)));have n1_:=zMk (below_step (hs HB) hb);clear HB;have HO668:=n0_;have HB:=n1_;clear n0_ n1_;clear hb ho3) | ((with_reducible refine gate_dst (N:=11) rfl ?_);refine box_event ?hg (N:=11) ?hd (cs:=#[.string a0,.int .i64 0,.bool false]) (t:=99) ?hr ?_;(case hd=>rfl);(case hg=>rfl);(case hr=>first | (go_simp;done) | (go_simp;rfl));intro gb669 hg w4 hbox hb;have n0_:=zMk (Kd.R_below (rs HO668) hb);have n1_:=zMk (below_step (hs HB) hb);have n2_:=zMk ((⟨hbox,(by rw [hg];exact (below_size (hs HB)) : w.heap.size ≤ gb669)⟩ : IsS99 w _ gb669 a0 0 false));have n3_:=zMk ((by rw [hg];exact (below_size (hs HB)) : w.heap.size ≤ gb669));have n4_:=zMk ((by rw [hg];exact (below_size (hs HB)) : w.heap.size ≤ gb669));clear HO668;clear HB;have HO668:=n0_;have HB:=n1_;have HI669:=n2_;have GW669:=n3_;have GE669:=n4_;clear n0_ n1_ n2_ n3_ n4_;clear hb hbox hg));go_loopg [4] k (fun kq v4 w'=>∃ (x4_1 : List (S45)) (x670000_1 : ByteArray) (x670001_1 : Int) (x670002_1 : Bool),Aside0 (spec_ReadRecs.l0 kq a0 x4_1 x670000_1 x670001_1 x670002_1 = some (r1,r2)) ∧ Aside0 (kq ≤ k) ∧ Aside0 (Kd.R k45 45 w' w.heap.size (fun _=>True) v4 x4_1) ∧ Aside0 (IsS99 w w' gb669 x670000_1 x670001_1 x670002_1) ∧ Aside0 (Below w.heap.size w w'));case atStart=>exact ⟨(y666),(a0),(0),(false),H',⟨Nat.le_refl _⟩,⟨rs HO668⟩,⟨by repeat (first | (with_reducible first | exact HI669.out | apply IsS99.alloc | apply IsS99.drewN | apply IsS99.drew | apply IsS99.set_0 | apply IsS99.set_1 | apply IsS99.set_2) | exact HI669.out)⟩,⟨by repeat (first | (with_reducible first | exact HB.out | apply below_alloc | apply pw_below_drewN | apply below_drew1 | refine below_set ?_ (IsS99.ge HI669.out)) | exact HB.out)⟩⟩
 case round =>
  clear H'
  try clear p2
  obtain ⟨x4_1,x670000_1,x670001_1,x670002_1,HA,HK1,HO_4,HI669,HB⟩:=hrel;cases gk with
  | zero=>exact absurd HA.out (by simp [spec_ReadRecs.l0])
  | succ k1 =>
   have H:=HA.out;clear HA;simp only [spec_ReadRecs.l0] at H;have HC5:=zMk H;clear H;go_upto_region 3 with (fail);go_cut [25] (fun v25 wc=>∃ (kq : Nat) (x25_4 : Bool),v25 = .bool x25_4 ∧ Aside0 (spec_ReadRecs.j1 kq a0 x4_1 x25_4 x670000_1 x670001_1 x670002_1 = some (r1,r2)) ∧ Aside0 (kq ≤ k1) ∧ Aside0 (Kd.R k45 45 wc w.heap.size (fun _=>True) u4 x4_1) ∧ Aside0 (IsS99 w wc gb669 x670000_1 x670001_1 x670002_1) ∧ Aside0 (Below w.heap.size w wc))
   case first =>
    have H:=HC5.out;clear HC5
    by_cases c6 : x670001_1 < (a0.size : Int)
    ·rw [if_pos c6] at H;have c6b0 : decide (x670001_1 < (a0.size : Int)) = true:=decide_eq_true c6;clear c6
     (first | rw [c6b0] | (simp only [i64_w,i32_w];rw [c6b0]) | skip)
     have H':=zMk H;clear H;obtain ⟨HGz7,hgz7⟩:=HI669.out;have hcz7_0:=cellS99_0 HGz7;have hcz7_1:=cellS99_1 HGz7;have hcz7_2:=cellS99_2 HGz7;have hfz7_0:=zFr HGz7 0;have hfz7_1:=zFr HGz7 1;have hfz7_2:=zFr HGz7 2;clear HGz7 hgz7
     go_wp2
     go_meet
     case rel=>exact ⟨_,(!x670002_1),(by first | rfl | (simp;done) | (simp [*];done)),H',⟨by have:=HK1.out;first | omega | exact Nat.le_refl _⟩,⟨rs HO_4⟩,⟨by repeat (first | (with_reducible first | exact HI669.out | apply IsS99.alloc | apply IsS99.drewN | apply IsS99.drew | apply IsS99.set_0 | apply IsS99.set_1 | apply IsS99.set_2) | exact HI669.out)⟩,⟨by repeat (first | (with_reducible first | exact HB.out | apply below_alloc | apply pw_below_drewN | apply below_drew1 | refine below_set ?_ (IsS99.ge HI669.out)) | exact HB.out)⟩⟩
    rw [if_neg c6] at H;have c6b0 : decide (x670001_1 < (a0.size : Int)) = false:=decide_eq_false c6;clear c6
    (first | rw [c6b0] | (simp only [i64_w,i32_w];rw [c6b0]) | skip)
    have H':=zMk H;clear H;obtain ⟨HGz8,hgz8⟩:=HI669.out;have hcz8_0:=cellS99_0 HGz8;have hcz8_1:=cellS99_1 HGz8;have hcz8_2:=cellS99_2 HGz8;have hfz8_0:=zFr HGz8 0;have hfz8_1:=zFr HGz8 1;have hfz8_2:=zFr HGz8 2;clear HGz8 hgz8
    go_wp2
    go_meet
    case rel=>exact ⟨_,(false),(by first | rfl | (simp;done) | (simp [*];done)),H',⟨by have:=HK1.out;first | omega | exact Nat.le_refl _⟩,⟨rs HO_4⟩,⟨by repeat (first | (with_reducible first | exact HI669.out | apply IsS99.alloc | apply IsS99.drewN | apply IsS99.drew | apply IsS99.set_0 | apply IsS99.set_1 | apply IsS99.set_2) | exact HI669.out)⟩,⟨by repeat (first | (with_reducible first | exact HB.out | apply below_alloc | apply pw_below_drewN | apply below_drew1 | refine below_set ?_ (IsS99.ge HI669.out)) | exact HB.out)⟩⟩
   case rest =>
    clear HC5
    try clear p2
    try clear c5
    try clear c6
    try clear c6b0
    try clear hcz7_0
    try clear hcz7_1
    try clear hcz7_2
    try clear hcz8_0
    try clear hcz8_1
    try clear hcz8_2
    try clear hfz7_0
    try clear hfz7_1
    try clear hfz7_2
    try clear hfz8_0
    try clear hfz8_1
    try clear hfz8_2
    try clear p2
    obtain ⟨kq,x25_4,rfl,HA,HJ4,HO_4,HI669,HB⟩:=hcut;cases kq with
    | zero=>exact absurd HA.out (by simp [spec_ReadRecs.j1])
    | succ kj4 =>
     have H:=HA.out;clear HA;simp only [spec_ReadRecs.j1] at H
     by_cases c9 : x25_4 = true
     ·subst c9;have H1 : (if 0 ≤ x670001_1 then (if x670001_1 < (a0.size : Int) then ((spec_l06Var.f kj4 x670000_1 (wrap64 (x670001_1 + 1)) x670002_1).bind fun bt670=>((spec_l06Var.f kj4 bt670.2.1 bt670.2.2.1 bt670.2.2.2).bind fun bt675=>(if bt675.2.2.2 = true then (some ((([] : List (S45))),false)) else ((spec_RecOk.f kj4 (wrap64 (Int.tdiv (wrap64 (bt a0 x670001_1)) 16)) (Int.tmod (wrap64 (bt a0 x670001_1)) 16) bt670.1 bt675.1).bind fun t682=>(if t682 = true then (if x4_1.length < 4398046511104 then (spec_ReadRecs.l0 kj4 a0 (x4_1 ++ [(⟨wrap64 (Int.tdiv (wrap64 (bt a0 x670001_1)) 16),Int.tmod (wrap64 (bt a0 x670001_1)) 16,bt670.1,bt675.1⟩ : S45)]) bt675.2.1 bt675.2.2.1 bt675.2.2.2) else (none)) else (some ((([] : List (S45))),false))))))) else (none)) else (none)) = some (r1,r2):=by rw [if_pos rfl] at H;exact H
      clear H;have H:=H1;clear H1
      by_cases c10 : 0 ≤ x670001_1
      ·rw [if_pos c10] at H;have c10b0 : decide (0 ≤ x670001_1) = true:=decide_eq_true c10;clear c10
       by_cases c11 : x670001_1 < (a0.size : Int)
       ·rw [if_pos c11] at H;have c11b0 : decide (x670001_1 < (a0.size : Int)) = true:=decide_eq_true c11;clear c11;replace H:=Option.bind_eq_some_iff.mp H;obtain ⟨⟨t670,t671,t672,t673⟩,A130,H⟩:=H;replace H : ((spec_l06Var.f kj4 t671 t672 t673).bind fun bt675=>(if bt675.2.2.2 = true then (some ((([] : List (S45))),false)) else ((spec_RecOk.f kj4 (wrap64 (Int.tdiv (wrap64 (bt a0 x670001_1)) 16)) (Int.tmod (wrap64 (bt a0 x670001_1)) 16) t670 bt675.1).bind fun t682=>(if t682 = true then (if x4_1.length < 4398046511104 then (spec_ReadRecs.l0 kj4 a0 (x4_1 ++ [(⟨wrap64 (Int.tdiv (wrap64 (bt a0 x670001_1)) 16),Int.tmod (wrap64 (bt a0 x670001_1)) 16,t670,bt675.1⟩ : S45)]) bt675.2.1 bt675.2.2.1 bt675.2.2.2) else (none)) else (some ((([] : List (S45))),false)))))) = some (r1,r2):=H;have A13:=zMk A130;clear A130;replace H:=Option.bind_eq_some_iff.mp H;obtain ⟨⟨t675,t676,t677,t678⟩,A140,H⟩:=H;replace H : (if t678 = true then (some ((([] : List (S45))),false)) else ((spec_RecOk.f kj4 (wrap64 (Int.tdiv (wrap64 (bt a0 x670001_1)) 16)) (Int.tmod (wrap64 (bt a0 x670001_1)) 16) t670 t675).bind fun t682=>(if t682 = true then (if x4_1.length < 4398046511104 then (spec_ReadRecs.l0 kj4 a0 (x4_1 ++ [(⟨wrap64 (Int.tdiv (wrap64 (bt a0 x670001_1)) 16),Int.tmod (wrap64 (bt a0 x670001_1)) 16,t670,t675⟩ : S45)]) t676 t677 t678) else (none)) else (some ((([] : List (S45))),false))))) = some (r1,r2):=H;have A14:=zMk A140;clear A140
        by_cases c15 : t678 = true
        ·subst c15;have H1 : (some ((([] : List (S45))),false)) = some (r1,r2):=by rw [if_pos rfl] at H;exact H
         clear H;have H:=H1;clear H1;obtain ⟨y679,hy679⟩ : ∃ y_ : List (S45),y_ = (([] : List (S45))):=⟨_,rfl⟩;replace H : (some (y679,false)) = some (r1,r2):=by first | (rw [hy679];with_reducible exact H) | (have H2_:=(Option.bind_some _ _).symm.trans H;rw [hy679];with_reducible exact H2_) | (have H2_:=(Option.bind_some _ _).symm.trans H;with_reducible exact H2_) | with_reducible exact H | (rw [hy679];exact H) | exact H
         have Ny679:=zMk hy679;clear hy679;simp only [Option.some.injEq,Prod.mk.injEq] at H;obtain ⟨rfl,rfl⟩:=H;obtain ⟨HGz16,hgz16⟩:=HI669.out;have hcz16_0:=cellS99_0 HGz16;have hcz16_1:=cellS99_1 HGz16;have hcz16_2:=cellS99_2 HGz16;have hfz16_0:=zFr HGz16 0;have hfz16_1:=zFr HGz16 1;have hfz16_2:=zFr HGz16 2;clear HGz16 hgz16;have p12 : 0 ≤ (x670001_1 : Int):=zDe (by first | (with_reducible assumption) | assumption);have q12 : x670001_1 < (a0.size : Int):=zDe (by first | (with_reducible assumption) | assumption);have hx12:=bt_at a0 x670001_1;replace p12:=eq_true p12;replace q12:=eq_true q12;go_wp2_with (first | ((with_reducible refine gate_callee (f:=67) rfl ?_);refine goesL_ (some 46) rfl rfl Try.func67 (by kernel_rfl) rfl #[.pointer (some ⟨gb669,0,none⟩)] rfl (by (try simp only [List.map_toArray,List.map_cons,List.map_nil]);first | done | rfl | (simp only [List.length_drop,List.length_take];rfl)) ?_;(with_reducible refine (spec_l06Var.calls kj4 gb669 x670000_1 (wrap64 (x670001_1 + 1)) x670002_1 t670 t671 t672 t673 w _ ?side1 ?side2 A13.out).mono ?_);(case side1=>repeat (first | (with_reducible first | exact HI669.out | apply IsS99.alloc | apply IsS99.drewN | apply IsS99.drew | apply IsS99.set_0 | apply IsS99.set_1 | apply IsS99.set_2) | exact HI669.out));(case side2=>repeat (first | (with_reducible first | exact HB.out | apply below_alloc | apply pw_below_drewN | apply below_drew1 | refine below_set ?_ (IsS99.ge HI669.out)) | exact HB.out));rintro e w17 ⟨rfl,hi,hb,hk⟩;refine ⟨_,rfl,?_⟩;have n0_:=zMk (Kd.R_mono (Kd.R_keep (IsS99.apart (show IsS99 w _ gb669 x670000_1 (wrap64 (x670001_1 + 1)) x670002_1 from by repeat (first | (with_reducible first | exact HI669.out | apply IsS99.alloc | apply IsS99.drewN | apply IsS99.drew | apply IsS99.set_0 | apply IsS99.set_1 | apply IsS99.set_2) | exact HI669.out)) (by (with_reducible repeat (first | apply Kd.R_alloc | apply Kd.R_drewN | apply Kd.R_drew));exact (Kd.R_mono (Kd.R_far (p:=⟨gb669,1,none⟩) (IsS99.apart HI669.out HO_4.out (by decide)) (fun _ hk=>hk.2) (.int .i64 (wrap64 (x670001_1 + 1)))) (fun _ h_=>h_.1))) (by decide)) hk (fun _ h=>h.2)) (fun _ h=>h.1));have n1_:=zMk (hb);have n2_:=zMk (hi);clear HO_4;clear HB;clear HI669;have HO_4:=n0_;have HB:=n1_;have HI669:=n2_;clear n0_ n1_ n2_;(try clear hb);(try clear hb2);(try clear hk);(try clear hi)) | ((with_reducible refine gate_dst (N:=7) rfl ?_);refine box_event ?hg (N:=7) ?hd (cs:=#[.int .i64 0,.int .i64 0,.int .i64 0,.int .i64 0]) (t:=45) ?hr ?_;(case hd=>rfl);(case hg=>rfl);(case hr=>first | (go_simp;done) | (go_simp;rfl));intro gb674 hg w18 hbox hb;have n0_:=zMk (Kd.R_below (Kd.R_elderB (rs HO_4) gb674 (Nat.le_of_eq hg.symm)) hb);have n1_:=zMk (IsS99.below (by repeat (first | (with_reducible first | exact HI669.out | apply IsS99.alloc | apply IsS99.drewN | apply IsS99.drew | apply IsS99.set_0 | apply IsS99.set_1 | apply IsS99.set_2) | exact HI669.out)) hb);have n2_:=zMk (below_step (by repeat (first | (with_reducible first | exact HB.out | apply below_alloc | apply pw_below_drewN | apply below_drew1 | refine below_set ?_ (IsS99.ge HI669.out)) | exact HB.out)) hb);have n3_:=zMk (hbox);have n4_:=zMk ((by rw [hg];exact (below_size (by repeat (first | (with_reducible first | exact HB.out | apply below_alloc | apply pw_below_drewN | apply below_drew1 | refine below_set ?_ (IsS99.ge HI669.out)) | exact HB.out))) : w.heap.size ≤ gb674));have n5_:=zMk ((by rw [hg];exact (below_size (by repeat (first | (with_reducible first | exact HB.out | apply below_alloc | apply pw_below_drewN | apply below_drew1 | refine below_set ?_ (IsS99.ge HI669.out)) | exact HB.out))) : w.heap.size ≤ gb674));have n6_:=zMk ((by rw [hg];exact Nat.ne_of_lt (IsS99.lt (show IsS99 w _ gb669 t671 t672 t673 from by repeat (first | (with_reducible first | exact HI669.out | apply IsS99.alloc | apply IsS99.drewN | apply IsS99.drew | apply IsS99.set_0 | apply IsS99.set_1 | apply IsS99.set_2) | exact HI669.out))) : gb669 ≠ gb674));have n7_:=zMk ((by rw [hg];exact Nat.ne_of_gt (IsS99.lt (show IsS99 w _ gb669 t671 t672 t673 from by repeat (first | (with_reducible first | exact HI669.out | apply IsS99.alloc | apply IsS99.drewN | apply IsS99.drew | apply IsS99.set_0 | apply IsS99.set_1 | apply IsS99.set_2) | exact HI669.out))) : gb674 ≠ gb669));clear HO_4;clear HI669;clear HB;have HO_4:=n0_;have HI669:=n1_;have HB:=n2_;have BK674:=n3_;have GW674:=n4_;have GE674:=n5_;have NB669_674:=n6_;have NB674_669:=n7_;clear n0_ n1_ n2_ n3_ n4_ n5_ n6_ n7_;clear hb hbox hg;have hnb19:=NB674_669.out;have hnc19:=NB669_674.out;have hcz20_0 : w18.cell? ⟨gb674,0,none⟩ = some (.int .i64 0):=(zCl BK674.out 0).trans rfl;have hcz20_1 : w18.cell? ⟨gb674,1,none⟩ = some (.int .i64 0):=(zCl BK674.out 1).trans rfl;have hcz20_2 : w18.cell? ⟨gb674,2,none⟩ = some (.int .i64 0):=(zCl BK674.out 2).trans rfl;have hcz20_3 : w18.cell? ⟨gb674,3,none⟩ = some (.int .i64 0):=(zCl BK674.out 3).trans rfl;have hfz20_0:=zFr BK674.out 0;have hfz20_1:=zFr BK674.out 1;have hfz20_2:=zFr BK674.out 2;have hfz20_3:=zFr BK674.out 3) | ((with_reducible refine gate_callee (f:=67) rfl ?_);refine goesL_ (some 49) rfl rfl Try.func67 (by kernel_rfl) rfl #[.pointer (some ⟨gb669,0,none⟩)] rfl (by (try simp only [List.map_toArray,List.map_cons,List.map_nil]);first | done | rfl | (simp only [List.length_drop,List.length_take];rfl)) ?_;(with_reducible refine (spec_l06Var.calls kj4 gb669 t671 t672 t673 t675 t676 t677 true w _ ?side1 ?side2 A14.out).mono ?_);(case side1=>repeat (first | (with_reducible first | exact HI669.out | apply IsS99.alloc | apply IsS99.drewN | apply IsS99.drew | apply IsS99.set_0 | apply IsS99.set_1 | apply IsS99.set_2 | refine IsS99.far ?_ NB669_674.out _) | exact HI669.out));(case side2=>repeat (first | (with_reducible first | exact HB.out | apply below_alloc | apply pw_below_drewN | apply below_drew1 | refine below_set ?_ (IsS99.ge HI669.out) | refine below_set ?_ GE674.out) | exact HB.out));rintro e w21 ⟨rfl,hi,hb,hk⟩;refine ⟨_,rfl,?_⟩;have n0_:=zMk (Kd.R_mono (Kd.R_keep (IsS99.apart (show IsS99 w _ gb669 t671 t672 t673 from by repeat (first | (with_reducible first | exact HI669.out | apply IsS99.alloc | apply IsS99.drewN | apply IsS99.drew | apply IsS99.set_0 | apply IsS99.set_1 | apply IsS99.set_2 | refine IsS99.far ?_ NB669_674.out _) | exact HI669.out)) (by (with_reducible repeat (first | apply Kd.R_alloc | apply Kd.R_drewN | apply Kd.R_drew));exact (Kd.R_mono (Kd.R_far (p:=⟨gb674,3,none⟩) (Kd.R_far (p:=⟨gb674,2,none⟩) (Kd.R_far (p:=⟨gb674,1,none⟩) (Kd.R_far (p:=⟨gb674,0,none⟩) (Kd.R_mono HO_4.out (fun k_ hk=>(⟨hk,hk.2⟩ : _ ∧ k_ ≠ gb674))) (fun _ hk=>hk.2) (.int .i64 (wrap64 (Int.tdiv (wrap64 (bt a0 x670001_1)) 16)))) (fun _ hk=>hk.2) (.int .i64 (Int.tmod (wrap64 (bt a0 x670001_1)) 16))) (fun _ hk=>hk.2) (.int .i64 t670)) (fun _ hk=>hk.2) (.int .i64 0)) (fun _ h_=>h_.1))) (by decide)) hk (fun _ h=>h.2)) (fun _ h=>h.1));have n1_:=zMk (KeepBut.blk hk (g':=gb674) (o:=.cells #[.int .i64 (wrap64 (Int.tdiv (wrap64 (bt a0 x670001_1)) 16)),.int .i64 (Int.tmod (wrap64 (bt a0 x670001_1)) 16),.int .i64 t670,.int .i64 0] 45 (0,0)) (by (with_reducible repeat (first | refine blk_drewN ?_ _ | refine blk_drew ?_ | refine blk_alloc ?_ _));refine blk_put (cs:=#[.int .i64 (wrap64 (Int.tdiv (wrap64 (bt a0 x670001_1)) 16)),.int .i64 (Int.tmod (wrap64 (bt a0 x670001_1)) 16),.int .i64 t670,.int .i64 0]) ?_ 3 _ rfl;(with_reducible repeat (first | refine blk_drewN ?_ _ | refine blk_drew ?_ | refine blk_alloc ?_ _));refine blk_put (cs:=#[.int .i64 (wrap64 (Int.tdiv (wrap64 (bt a0 x670001_1)) 16)),.int .i64 (Int.tmod (wrap64 (bt a0 x670001_1)) 16),.int .i64 0,.int .i64 0]) ?_ 2 _ rfl;(with_reducible repeat (first | refine blk_drewN ?_ _ | refine blk_drew ?_ | refine blk_alloc ?_ _));refine blk_put (cs:=#[.int .i64 (wrap64 (Int.tdiv (wrap64 (bt a0 x670001_1)) 16)),.int .i64 0,.int .i64 0,.int .i64 0]) ?_ 1 _ rfl;(with_reducible repeat (first | refine blk_drewN ?_ _ | refine blk_drew ?_ | refine blk_alloc ?_ _));refine blk_put (cs:=#[.int .i64 0,.int .i64 0,.int .i64 0,.int .i64 0]) ?_ 0 _ rfl;(with_reducible repeat (first | refine blk_drewN ?_ _ | refine blk_drew ?_ | refine blk_alloc ?_ _));exact BK674.out) NB674_669.out (by simp));have n2_:=zMk (hb);have n3_:=zMk (hi);clear HO_4;clear BK674;clear HB;clear HI669;have HO_4:=n0_;have BK674:=n1_;have HB:=n2_;have HI669:=n3_;clear n0_ n1_ n2_ n3_;(try clear hb);(try clear hb2);(try clear hk);(try clear hi);have hcz22_0 : w21.cell? ⟨gb674,0,none⟩ = some (.int .i64 (wrap64 (Int.tdiv (wrap64 (bt a0 x670001_1)) 16))):=(zCl BK674.out 0).trans rfl;have hcz22_1 : w21.cell? ⟨gb674,1,none⟩ = some (.int .i64 (Int.tmod (wrap64 (bt a0 x670001_1)) 16)):=(zCl BK674.out 1).trans rfl;have hcz22_2 : w21.cell? ⟨gb674,2,none⟩ = some (.int .i64 t670):=(zCl BK674.out 2).trans rfl;have hcz22_3 : w21.cell? ⟨gb674,3,none⟩ = some (.int .i64 0):=(zCl BK674.out 3).trans rfl;have hfz22_0:=zFr BK674.out 0;have hfz22_1:=zFr BK674.out 1;have hfz22_2:=zFr BK674.out 2;have hfz22_3:=zFr BK674.out 3;obtain ⟨HGz23,hgz23⟩:=HI669.out;have hcz23_0:=cellS99_0 HGz23;have hcz23_1:=cellS99_1 HGz23;have hcz23_2:=cellS99_2 HGz23;have hfz23_0:=zFr HGz23 0;have hfz23_1:=zFr HGz23 1;have hfz23_2:=zFr HGz23 2;clear HGz23 hgz23) | ((with_reducible refine gate_dst (N:=60) rfl ?_);refine Kd.R_lit k45 _ 45 ?hg (N:=60) ?hd (xs:=([] : List (S45))) (inner:=[]) (ok:=fun _=>True) (okp:=fun _=>True) ?hr ?hp (fun _ hk=>hk) trivial (Below.refl _ _) (Nat.le_refl _) (by simp) ?_;(case hd=>rfl);(case hg=>rfl);(case hr=>first | (go_simp;done) | (go_simp;rfl));(case hp=>exact (Reps.none _ _));intro v680 w24 ho25 hb hg_ hnew_;clear hg_ hnew_;(first | rw [← Ny679.out] at ho25 | (simp only [Int.reduceToNat] at ho25;rw [← Ny679.out] at ho25));have n0_:=zMk (Kd.R_elder' (by (with_reducible repeat (first | apply Kd.R_alloc | apply Kd.R_drewN | apply Kd.R_drew));exact (Kd.R_mono (Kd.R_far (p:=⟨gb674,3,none⟩) (Kd.R_mono HO_4.out (fun k_ hk=>(⟨hk,hk.2⟩ : _ ∧ k_ ≠ gb674))) (fun _ hk=>hk.2) (.int .i64 t675)) (fun _ h_=>h_.1))) (Kd.R_base ho25) hb);have n1_:=zMk (Kd.R_lower (Kd.R_newB (Kd.R_new' ho25 (Kd.R_lt (by (with_reducible repeat (first | apply Kd.R_alloc | apply Kd.R_drewN | apply Kd.R_drew));exact (Kd.R_mono (Kd.R_far (p:=⟨gb674,3,none⟩) (Kd.R_mono HO_4.out (fun k_ hk=>(⟨hk,hk.2⟩ : _ ∧ k_ ≠ gb674))) (fun _ hk=>hk.2) (.int .i64 t675)) (fun _ h_=>h_.1))))) (g:=gb674) (o:=.cells #[.int .i64 (wrap64 (Int.tdiv (wrap64 (bt a0 x670001_1)) 16)),.int .i64 (Int.tmod (wrap64 (bt a0 x670001_1)) 16),.int .i64 t670,.int .i64 t675] 45 (0,0)) (by (with_reducible repeat (first | refine blk_drewN ?_ _ | refine blk_drew ?_ | refine blk_alloc ?_ _));refine blk_put (cs:=#[.int .i64 (wrap64 (Int.tdiv (wrap64 (bt a0 x670001_1)) 16)),.int .i64 (Int.tmod (wrap64 (bt a0 x670001_1)) 16),.int .i64 t670,.int .i64 0]) ?_ 3 _ rfl;(with_reducible repeat (first | refine blk_drewN ?_ _ | refine blk_drew ?_ | refine blk_alloc ?_ _));exact BK674.out)) (below_size (by repeat (first | (with_reducible first | exact HB.out | apply below_alloc | apply pw_below_drewN | apply below_drew1 | refine below_set ?_ (IsS99.ge HI669.out) | refine below_set ?_ GE674.out) | exact HB.out))));have n2_:=zMk (IsS99.below (show IsS99 w (w21.setCell ⟨gb674,3,none⟩ (.int .i64 t675)) gb669 t676 t677 true from by repeat (first | (with_reducible first | exact HI669.out | apply IsS99.alloc | apply IsS99.drewN | apply IsS99.drew | apply IsS99.set_0 | apply IsS99.set_1 | apply IsS99.set_2 | refine IsS99.far ?_ NB669_674.out _) | exact HI669.out)) hb);have n3_:=zMk (blk_below (g:=gb674) (o:=.cells #[.int .i64 (wrap64 (Int.tdiv (wrap64 (bt a0 x670001_1)) 16)),.int .i64 (Int.tmod (wrap64 (bt a0 x670001_1)) 16),.int .i64 t670,.int .i64 t675] 45 (0,0)) (by (with_reducible repeat (first | refine blk_drewN ?_ _ | refine blk_drew ?_ | refine blk_alloc ?_ _));refine blk_put (cs:=#[.int .i64 (wrap64 (Int.tdiv (wrap64 (bt a0 x670001_1)) 16)),.int .i64 (Int.tmod (wrap64 (bt a0 x670001_1)) 16),.int .i64 t670,.int .i64 0]) ?_ 3 _ rfl;(with_reducible repeat (first | refine blk_drewN ?_ _ | refine blk_drew ?_ | refine blk_alloc ?_ _));exact BK674.out) hb);have n4_:=zMk (below_step (by repeat (first | (with_reducible first | exact HB.out | apply below_alloc | apply pw_below_drewN | apply below_drew1 | refine below_set ?_ (IsS99.ge HI669.out) | refine below_set ?_ GE674.out) | exact HB.out)) hb);clear HO_4;clear HI669;clear BK674;clear HB;have HO_4:=n0_;have HO681:=n1_;have HI669:=n2_;have BK674:=n3_;have HB:=n4_;clear n0_ n1_ n2_ n3_ n4_;clear hb ho25))
         go_ret2
         exact ⟨_,by first | rfl | (simp [errW_none,errW_some] <;> rfl) | (simp [*,errW_none,errW_some] <;> rfl),by (with_reducible repeat (first | apply Kd.R_alloc | apply Kd.R_drewN | apply Kd.R_drew));exact Kd.R_mono HO681.out (fun _ hk=>trivial),by repeat (first | (with_reducible first | exact HB.out | apply below_alloc | apply pw_below_drewN | apply below_drew1 | refine below_set ?_ (IsS99.ge HI669.out) | refine below_set ?_ GE674.out) | exact HB.out)⟩
        replace c15:=Bool.eq_false_iff.mpr c15;subst c15;have H1 : ((spec_RecOk.f kj4 (wrap64 (Int.tdiv (wrap64 (bt a0 x670001_1)) 16)) (Int.tmod (wrap64 (bt a0 x670001_1)) 16) t670 t675).bind fun t682=>(if t682 = true then (if x4_1.length < 4398046511104 then (spec_ReadRecs.l0 kj4 a0 (x4_1 ++ [(⟨wrap64 (Int.tdiv (wrap64 (bt a0 x670001_1)) 16),Int.tmod (wrap64 (bt a0 x670001_1)) 16,t670,t675⟩ : S45)]) t676 t677 false) else (none)) else (some ((([] : List (S45))),false)))) = some (r1,r2):=by rw [if_neg (show ¬ (false = true) by decide)] at H;exact H
        clear H;have H:=H1;clear H1;replace H:=Option.bind_eq_some_iff.mp H;obtain ⟨t682,A260,H⟩:=H;replace H : (if t682 = true then (if x4_1.length < 4398046511104 then (spec_ReadRecs.l0 kj4 a0 (x4_1 ++ [(⟨wrap64 (Int.tdiv (wrap64 (bt a0 x670001_1)) 16),Int.tmod (wrap64 (bt a0 x670001_1)) 16,t670,t675⟩ : S45)]) t676 t677 false) else (none)) else (some ((([] : List (S45))),false))) = some (r1,r2):=H;have A26:=zMk A260;clear A260
        by_cases c27 : t682 = true
        ·subst c27;have H1 : (if x4_1.length < 4398046511104 then (spec_ReadRecs.l0 kj4 a0 (x4_1 ++ [(⟨wrap64 (Int.tdiv (wrap64 (bt a0 x670001_1)) 16),Int.tmod (wrap64 (bt a0 x670001_1)) 16,t670,t675⟩ : S45)]) t676 t677 false) else (none)) = some (r1,r2):=by rw [if_pos rfl] at H;exact H
         clear H;have H:=H1;clear H1
         by_cases c28 : x4_1.length < 4398046511104
         ·rw [if_pos c28] at H;have LMc28:=zMk c28;clear c28;obtain ⟨y683,hy683⟩ : ∃ y_ : List (S45),y_ = (x4_1 ++ [(⟨wrap64 (Int.tdiv (wrap64 (bt a0 x670001_1)) 16),Int.tmod (wrap64 (bt a0 x670001_1)) 16,t670,t675⟩ : S45)]):=⟨_,rfl⟩;replace H : (spec_ReadRecs.l0 kj4 a0 y683 t676 t677 false) = some (r1,r2):=by first | (rw [hy683];with_reducible exact H) | (have H2_:=(Option.bind_some _ _).symm.trans H;rw [hy683];with_reducible exact H2_) | (have H2_:=(Option.bind_some _ _).symm.trans H;with_reducible exact H2_) | with_reducible exact H | (rw [hy683];exact H) | exact H
          have Ny683:=zMk hy683;clear hy683;have H':=zMk H;clear H;obtain ⟨HGz29,hgz29⟩:=HI669.out;have hcz29_0:=cellS99_0 HGz29;have hcz29_1:=cellS99_1 HGz29;have hcz29_2:=cellS99_2 HGz29;have hfz29_0:=zFr HGz29 0;have hfz29_1:=zFr HGz29 1;have hfz29_2:=zFr HGz29 2;clear HGz29 hgz29;have p12 : 0 ≤ (x670001_1 : Int):=zDe (by first | (with_reducible assumption) | assumption);have q12 : x670001_1 < (a0.size : Int):=zDe (by first | (with_reducible assumption) | assumption);have hx12:=bt_at a0 x670001_1;replace p12:=eq_true p12;replace q12:=eq_true q12;go_wp2_with (first | ((with_reducible refine gate_callee (f:=67) rfl ?_);refine goesL_ (some 46) rfl rfl Try.func67 (by kernel_rfl) rfl #[.pointer (some ⟨gb669,0,none⟩)] rfl (by (try simp only [List.map_toArray,List.map_cons,List.map_nil]);first | done | rfl | (simp only [List.length_drop,List.length_take];rfl)) ?_;(with_reducible refine (spec_l06Var.calls kj4 gb669 x670000_1 (wrap64 (x670001_1 + 1)) x670002_1 t670 t671 t672 t673 w _ ?side1 ?side2 A13.out).mono ?_);(case side1=>repeat (first | (with_reducible first | exact HI669.out | apply IsS99.alloc | apply IsS99.drewN | apply IsS99.drew | apply IsS99.set_0 | apply IsS99.set_1 | apply IsS99.set_2) | exact HI669.out));(case side2=>repeat (first | (with_reducible first | exact HB.out | apply below_alloc | apply pw_below_drewN | apply below_drew1 | refine below_set ?_ (IsS99.ge HI669.out)) | exact HB.out));rintro e w30 ⟨rfl,hi,hb,hk⟩;refine ⟨_,rfl,?_⟩;have n0_:=zMk (Kd.R_mono (Kd.R_keep (IsS99.apart (show IsS99 w _ gb669 x670000_1 (wrap64 (x670001_1 + 1)) x670002_1 from by repeat (first | (with_reducible first | exact HI669.out | apply IsS99.alloc | apply IsS99.drewN | apply IsS99.drew | apply IsS99.set_0 | apply IsS99.set_1 | apply IsS99.set_2) | exact HI669.out)) (by (with_reducible repeat (first | apply Kd.R_alloc | apply Kd.R_drewN | apply Kd.R_drew));exact (Kd.R_mono (Kd.R_far (p:=⟨gb669,1,none⟩) (IsS99.apart HI669.out HO_4.out (by decide)) (fun _ hk=>hk.2) (.int .i64 (wrap64 (x670001_1 + 1)))) (fun _ h_=>h_.1))) (by decide)) hk (fun _ h=>h.2)) (fun _ h=>h.1));have n1_:=zMk (hb);have n2_:=zMk (hi);clear HO_4;clear HB;clear HI669;have HO_4:=n0_;have HB:=n1_;have HI669:=n2_;clear n0_ n1_ n2_;(try clear hb);(try clear hb2);(try clear hk);(try clear hi)) | ((with_reducible refine gate_dst (N:=7) rfl ?_);refine box_event ?hg (N:=7) ?hd (cs:=#[.int .i64 0,.int .i64 0,.int .i64 0,.int .i64 0]) (t:=45) ?hr ?_;(case hd=>rfl);(case hg=>rfl);(case hr=>first | (go_simp;done) | (go_simp;rfl));intro gb674 hg w31 hbox hb;have n0_:=zMk (Kd.R_below (Kd.R_elderB (rs HO_4) gb674 (Nat.le_of_eq hg.symm)) hb);have n1_:=zMk (IsS99.below (by repeat (first | (with_reducible first | exact HI669.out | apply IsS99.alloc | apply IsS99.drewN | apply IsS99.drew | apply IsS99.set_0 | apply IsS99.set_1 | apply IsS99.set_2) | exact HI669.out)) hb);have n2_:=zMk (below_step (by repeat (first | (with_reducible first | exact HB.out | apply below_alloc | apply pw_below_drewN | apply below_drew1 | refine below_set ?_ (IsS99.ge HI669.out)) | exact HB.out)) hb);have n3_:=zMk (hbox);have n4_:=zMk ((by rw [hg];exact (below_size (by repeat (first | (with_reducible first | exact HB.out | apply below_alloc | apply pw_below_drewN | apply below_drew1 | refine below_set ?_ (IsS99.ge HI669.out)) | exact HB.out))) : w.heap.size ≤ gb674));have n5_:=zMk ((by rw [hg];exact (below_size (by repeat (first | (with_reducible first | exact HB.out | apply below_alloc | apply pw_below_drewN | apply below_drew1 | refine below_set ?_ (IsS99.ge HI669.out)) | exact HB.out))) : w.heap.size ≤ gb674));have n6_:=zMk ((by rw [hg];exact Nat.ne_of_lt (IsS99.lt (show IsS99 w _ gb669 t671 t672 t673 from by repeat (first | (with_reducible first | exact HI669.out | apply IsS99.alloc | apply IsS99.drewN | apply IsS99.drew | apply IsS99.set_0 | apply IsS99.set_1 | apply IsS99.set_2) | exact HI669.out))) : gb669 ≠ gb674));have n7_:=zMk ((by rw [hg];exact Nat.ne_of_gt (IsS99.lt (show IsS99 w _ gb669 t671 t672 t673 from by repeat (first | (with_reducible first | exact HI669.out | apply IsS99.alloc | apply IsS99.drewN | apply IsS99.drew | apply IsS99.set_0 | apply IsS99.set_1 | apply IsS99.set_2) | exact HI669.out))) : gb674 ≠ gb669));clear HO_4;clear HI669;clear HB;have HO_4:=n0_;have HI669:=n1_;have HB:=n2_;have BK674:=n3_;have GW674:=n4_;have GE674:=n5_;have NB669_674:=n6_;have NB674_669:=n7_;clear n0_ n1_ n2_ n3_ n4_ n5_ n6_ n7_;clear hb hbox hg;have hnb32:=NB674_669.out;have hnc32:=NB669_674.out;have hcz33_0 : w31.cell? ⟨gb674,0,none⟩ = some (.int .i64 0):=(zCl BK674.out 0).trans rfl;have hcz33_1 : w31.cell? ⟨gb674,1,none⟩ = some (.int .i64 0):=(zCl BK674.out 1).trans rfl;have hcz33_2 : w31.cell? ⟨gb674,2,none⟩ = some (.int .i64 0):=(zCl BK674.out 2).trans rfl;have hcz33_3 : w31.cell? ⟨gb674,3,none⟩ = some (.int .i64 0):=(zCl BK674.out 3).trans rfl;have hfz33_0:=zFr BK674.out 0;have hfz33_1:=zFr BK674.out 1;have hfz33_2:=zFr BK674.out 2;have hfz33_3:=zFr BK674.out 3) | ((with_reducible refine gate_callee (f:=67) rfl ?_);refine goesL_ (some 49) rfl rfl Try.func67 (by kernel_rfl) rfl #[.pointer (some ⟨gb669,0,none⟩)] rfl (by (try simp only [List.map_toArray,List.map_cons,List.map_nil]);first | done | rfl | (simp only [List.length_drop,List.length_take];rfl)) ?_;(with_reducible refine (spec_l06Var.calls kj4 gb669 t671 t672 t673 t675 t676 t677 false w _ ?side1 ?side2 A14.out).mono ?_);(case side1=>repeat (first | (with_reducible first | exact HI669.out | apply IsS99.alloc | apply IsS99.drewN | apply IsS99.drew | apply IsS99.set_0 | apply IsS99.set_1 | apply IsS99.set_2 | refine IsS99.far ?_ NB669_674.out _) | exact HI669.out));(case side2=>repeat (first | (with_reducible first | exact HB.out | apply below_alloc | apply pw_below_drewN | apply below_drew1 | refine below_set ?_ (IsS99.ge HI669.out) | refine below_set ?_ GE674.out) | exact HB.out));rintro e w34 ⟨rfl,hi,hb,hk⟩;refine ⟨_,rfl,?_⟩;have n0_:=zMk (Kd.R_mono (Kd.R_keep (IsS99.apart (show IsS99 w _ gb669 t671 t672 t673 from by repeat (first | (with_reducible first | exact HI669.out | apply IsS99.alloc | apply IsS99.drewN | apply IsS99.drew | apply IsS99.set_0 | apply IsS99.set_1 | apply IsS99.set_2 | refine IsS99.far ?_ NB669_674.out _) | exact HI669.out)) (by (with_reducible repeat (first | apply Kd.R_alloc | apply Kd.R_drewN | apply Kd.R_drew));exact (Kd.R_mono (Kd.R_far (p:=⟨gb674,3,none⟩) (Kd.R_far (p:=⟨gb674,2,none⟩) (Kd.R_far (p:=⟨gb674,1,none⟩) (Kd.R_far (p:=⟨gb674,0,none⟩) (Kd.R_mono HO_4.out (fun k_ hk=>(⟨hk,hk.2⟩ : _ ∧ k_ ≠ gb674))) (fun _ hk=>hk.2) (.int .i64 (wrap64 (Int.tdiv (wrap64 (bt a0 x670001_1)) 16)))) (fun _ hk=>hk.2) (.int .i64 (Int.tmod (wrap64 (bt a0 x670001_1)) 16))) (fun _ hk=>hk.2) (.int .i64 t670)) (fun _ hk=>hk.2) (.int .i64 0)) (fun _ h_=>h_.1))) (by decide)) hk (fun _ h=>h.2)) (fun _ h=>h.1));have n1_:=zMk (KeepBut.blk hk (g':=gb674) (o:=.cells #[.int .i64 (wrap64 (Int.tdiv (wrap64 (bt a0 x670001_1)) 16)),.int .i64 (Int.tmod (wrap64 (bt a0 x670001_1)) 16),.int .i64 t670,.int .i64 0] 45 (0,0)) (by (with_reducible repeat (first | refine blk_drewN ?_ _ | refine blk_drew ?_ | refine blk_alloc ?_ _));refine blk_put (cs:=#[.int .i64 (wrap64 (Int.tdiv (wrap64 (bt a0 x670001_1)) 16)),.int .i64 (Int.tmod (wrap64 (bt a0 x670001_1)) 16),.int .i64 t670,.int .i64 0]) ?_ 3 _ rfl;(with_reducible repeat (first | refine blk_drewN ?_ _ | refine blk_drew ?_ | refine blk_alloc ?_ _));refine blk_put (cs:=#[.int .i64 (wrap64 (Int.tdiv (wrap64 (bt a0 x670001_1)) 16)),.int .i64 (Int.tmod (wrap64 (bt a0 x670001_1)) 16),.int .i64 0,.int .i64 0]) ?_ 2 _ rfl;(with_reducible repeat (first | refine blk_drewN ?_ _ | refine blk_drew ?_ | refine blk_alloc ?_ _));refine blk_put (cs:=#[.int .i64 (wrap64 (Int.tdiv (wrap64 (bt a0 x670001_1)) 16)),.int .i64 0,.int .i64 0,.int .i64 0]) ?_ 1 _ rfl;(with_reducible repeat (first | refine blk_drewN ?_ _ | refine blk_drew ?_ | refine blk_alloc ?_ _));refine blk_put (cs:=#[.int .i64 0,.int .i64 0,.int .i64 0,.int .i64 0]) ?_ 0 _ rfl;(with_reducible repeat (first | refine blk_drewN ?_ _ | refine blk_drew ?_ | refine blk_alloc ?_ _));exact BK674.out) NB674_669.out (by simp));have n2_:=zMk (hb);have n3_:=zMk (hi);clear HO_4;clear BK674;clear HB;clear HI669;have HO_4:=n0_;have BK674:=n1_;have HB:=n2_;have HI669:=n3_;clear n0_ n1_ n2_ n3_;(try clear hb);(try clear hb2);(try clear hk);(try clear hi);have hcz35_0 : w34.cell? ⟨gb674,0,none⟩ = some (.int .i64 (wrap64 (Int.tdiv (wrap64 (bt a0 x670001_1)) 16))):=(zCl BK674.out 0).trans rfl;have hcz35_1 : w34.cell? ⟨gb674,1,none⟩ = some (.int .i64 (Int.tmod (wrap64 (bt a0 x670001_1)) 16)):=(zCl BK674.out 1).trans rfl;have hcz35_2 : w34.cell? ⟨gb674,2,none⟩ = some (.int .i64 t670):=(zCl BK674.out 2).trans rfl;have hcz35_3 : w34.cell? ⟨gb674,3,none⟩ = some (.int .i64 0):=(zCl BK674.out 3).trans rfl;have hfz35_0:=zFr BK674.out 0;have hfz35_1:=zFr BK674.out 1;have hfz35_2:=zFr BK674.out 2;have hfz35_3:=zFr BK674.out 3;obtain ⟨HGz36,hgz36⟩:=HI669.out;have hcz36_0:=cellS99_0 HGz36;have hcz36_1:=cellS99_1 HGz36;have hcz36_2:=cellS99_2 HGz36;have hfz36_0:=zFr HGz36 0;have hfz36_1:=zFr HGz36 1;have hfz36_2:=zFr HGz36 2;clear HGz36 hgz36) | (go_at_call 51;(with_reducible refine (spec_RecOk.calls kj4 (wrap64 (Int.tdiv (wrap64 (bt a0 x670001_1)) 16)) (Int.tmod (wrap64 (bt a0 x670001_1)) 16) t670 t675 true _ A26.out).mono ?_);rintro e w37 ⟨rfl,hb⟩;have n0_:=zMk (Kd.R_below (by (with_reducible repeat (first | apply Kd.R_alloc | apply Kd.R_drewN | apply Kd.R_drew));exact (Kd.R_mono (Kd.R_far (p:=⟨gb674,3,none⟩) (Kd.R_mono HO_4.out (fun k_ hk=>(⟨hk,hk.2⟩ : _ ∧ k_ ≠ gb674))) (fun _ hk=>hk.2) (.int .i64 t675)) (fun _ h_=>h_.1))) hb);have n1_:=zMk (IsS99.below (show IsS99 w (w34.setCell ⟨gb674,3,none⟩ (.int .i64 t675)) gb669 t676 t677 false from by repeat (first | (with_reducible first | exact HI669.out | apply IsS99.alloc | apply IsS99.drewN | apply IsS99.drew | apply IsS99.set_0 | apply IsS99.set_1 | apply IsS99.set_2 | refine IsS99.far ?_ NB669_674.out _) | exact HI669.out)) hb);have n2_:=zMk (blk_below (g:=gb674) (o:=.cells #[.int .i64 (wrap64 (Int.tdiv (wrap64 (bt a0 x670001_1)) 16)),.int .i64 (Int.tmod (wrap64 (bt a0 x670001_1)) 16),.int .i64 t670,.int .i64 t675] 45 (0,0)) (by (with_reducible repeat (first | refine blk_drewN ?_ _ | refine blk_drew ?_ | refine blk_alloc ?_ _));refine blk_put (cs:=#[.int .i64 (wrap64 (Int.tdiv (wrap64 (bt a0 x670001_1)) 16)),.int .i64 (Int.tmod (wrap64 (bt a0 x670001_1)) 16),.int .i64 t670,.int .i64 0]) ?_ 3 _ rfl;(with_reducible repeat (first | refine blk_drewN ?_ _ | refine blk_drew ?_ | refine blk_alloc ?_ _));exact BK674.out) hb);have n3_:=zMk (below_step (by repeat (first | (with_reducible first | exact HB.out | apply below_alloc | apply pw_below_drewN | apply below_drew1 | refine below_set ?_ (IsS99.ge HI669.out) | refine below_set ?_ GE674.out) | exact HB.out)) hb);clear HO_4;clear HI669;clear BK674;clear HB;have HO_4:=n0_;have HI669:=n1_;have BK674:=n2_;have HB:=n3_;clear n0_ n1_ n2_ n3_;(try clear hb);(try clear hb2);(try clear hk);(try clear hi);have hcz38_0 : w37.cell? ⟨gb674,0,none⟩ = some (.int .i64 (wrap64 (Int.tdiv (wrap64 (bt a0 x670001_1)) 16))):=(zCl BK674.out 0).trans rfl;have hcz38_1 : w37.cell? ⟨gb674,1,none⟩ = some (.int .i64 (Int.tmod (wrap64 (bt a0 x670001_1)) 16)):=(zCl BK674.out 1).trans rfl;have hcz38_2 : w37.cell? ⟨gb674,2,none⟩ = some (.int .i64 t670):=(zCl BK674.out 2).trans rfl;have hcz38_3 : w37.cell? ⟨gb674,3,none⟩ = some (.int .i64 t675):=(zCl BK674.out 3).trans rfl;have hfz38_0:=zFr BK674.out 0;have hfz38_1:=zFr BK674.out 1;have hfz38_2:=zFr BK674.out 2;have hfz38_3:=zFr BK674.out 3) | ((with_reducible refine gate_builtin (b:=.append) (xs:=#[.tmp 61,.tmp 63]) rfl ?_);at_builtin;refine Kd.R_append k45 (w0:=w) w.heap.size rfl (.tmp 61) (.tmp 63) 24 45 (.agg #[(.int .i64 0),(.int .i64 0),(.int .i64 0),(.int .i64 0)]) 32 rfl Try.underlying24 info45 rfl (by decide) (by omega) u4 x4_1 (⟨wrap64 (Int.tdiv (wrap64 (bt a0 x670001_1)) 16),Int.tmod (wrap64 (bt a0 x670001_1)) 16,t670,t675⟩ : S45) [.int .i64 (wrap64 (Int.tdiv (wrap64 (bt a0 x670001_1)) 16)),.int .i64 (Int.tmod (wrap64 (bt a0 x670001_1)) 16),.int .i64 t670,.int .i64 t675] (fun k_=>k_ ≠ gb674) (fun _=>False) rfl rfl ?aP (fun _ hk=>hk.elim) ?aF ?aO ?aB ?aS ?aL ?_;(case aP=>exact k45_mkM _ _ _ (⟨wrap64 (Int.tdiv (wrap64 (bt a0 x670001_1)) 16),Int.tmod (wrap64 (bt a0 x670001_1)) 16,t670,t675⟩ : S45));(case aB=>exact (by repeat (first | (with_reducible first | exact HB.out | apply below_alloc | apply pw_below_drewN | apply below_drew1 | refine below_set ?_ (IsS99.ge HI669.out) | refine below_set ?_ GE674.out) | exact HB.out)));(case aF=>exact (fun k_ hk=>Kd.freshB (g:=gb674) (o:=.cells #[.int .i64 (wrap64 (Int.tdiv (wrap64 (bt a0 x670001_1)) 16)),.int .i64 (Int.tmod (wrap64 (bt a0 x670001_1)) 16),.int .i64 t670,.int .i64 t675] 45 (0,0)) (bs BK674) k_ hk));(case aO=>exact (by (with_reducible repeat (first | apply Kd.R_alloc | apply Kd.R_drewN | apply Kd.R_drew));exact Kd.R_mono HO_4.out (fun _ hk=>hk.2)));(case aS=>exact (below_size (by repeat (first | (with_reducible first | exact HB.out | apply below_alloc | apply pw_below_drewN | apply below_drew1 | refine below_set ?_ (IsS99.ge HI669.out) | refine below_set ?_ GE674.out) | exact HB.out))));(case aL=>have:=LMc28.out;omega);intro v684 w39 ho hb hg hat;rw [← Ny683.out] at ho;have n0_:=zMk (IsS99.grown (by repeat (first | (with_reducible first | exact HI669.out | apply IsS99.alloc | apply IsS99.drewN | apply IsS99.drew | apply IsS99.set_0 | apply IsS99.set_1 | apply IsS99.set_2 | refine IsS99.far ?_ NB669_674.out _) | exact HI669.out)) hg (IsS99.own_ne HI669.out HO_4.out (by decide)));have n1_:=zMk (blk_grown (g:=gb674) (o:=.cells #[.int .i64 (wrap64 (Int.tdiv (wrap64 (bt a0 x670001_1)) 16)),.int .i64 (Int.tmod (wrap64 (bt a0 x670001_1)) 16),.int .i64 t670,.int .i64 t675] 45 (0,0)) (bs BK674) hg (Kd.R_away HO_4.out (fun _ hk=>hk.2)));have n2_:=zMk (hb);have n3_:=zMk (ho);clear HI669;clear BK674;clear HB;clear HO_4;have HI669:=n0_;have BK674:=n1_;have HB:=n2_;have HO685:=n3_;clear n0_ n1_ n2_ n3_;clear ho hb hg hat));go_roundg kj4;case measure=>have:=HK1.out;have:=HJ4.out;omega
          case rel=>exact ⟨(y683),(t676),(t677),(false),H',⟨by have:=HK1.out;have:=HJ4.out;omega⟩,⟨by (with_reducible repeat (first | apply Kd.R_alloc | apply Kd.R_drewN | apply Kd.R_drew));exact Kd.R_mono HO685.out (fun _ hk=>trivial)⟩,⟨by repeat (first | (with_reducible first | exact HI669.out | apply IsS99.alloc | apply IsS99.drewN | apply IsS99.drew | apply IsS99.set_0 | apply IsS99.set_1 | apply IsS99.set_2 | refine IsS99.far ?_ NB669_674.out _) | exact HI669.out)⟩,⟨by repeat (first | (with_reducible first | exact HB.out | apply below_alloc | apply pw_below_drewN | apply below_drew1 | refine below_set ?_ (IsS99.ge HI669.out) | refine below_set ?_ GE674.out) | exact HB.out)⟩⟩
         rw [if_neg c28] at H;exact absurd H (by simp)
        replace c27:=Bool.eq_false_iff.mpr c27;subst c27;have H1 : (some ((([] : List (S45))),false)) = some (r1,r2):=by rw [if_neg (show ¬ (false = true) by decide)] at H;exact H
        clear H;have H:=H1;clear H1;obtain ⟨y686,hy686⟩ : ∃ y_ : List (S45),y_ = (([] : List (S45))):=⟨_,rfl⟩;replace H : (some (y686,false)) = some (r1,r2):=by first | (rw [hy686];with_reducible exact H) | (have H2_:=(Option.bind_some _ _).symm.trans H;rw [hy686];with_reducible exact H2_) | (have H2_:=(Option.bind_some _ _).symm.trans H;with_reducible exact H2_) | with_reducible exact H | (rw [hy686];exact H) | exact H
        have Ny686:=zMk hy686;clear hy686;simp only [Option.some.injEq,Prod.mk.injEq] at H;obtain ⟨rfl,rfl⟩:=H;obtain ⟨HGz40,hgz40⟩:=HI669.out;have hcz40_0:=cellS99_0 HGz40;have hcz40_1:=cellS99_1 HGz40;have hcz40_2:=cellS99_2 HGz40;have hfz40_0:=zFr HGz40 0;have hfz40_1:=zFr HGz40 1;have hfz40_2:=zFr HGz40 2;clear HGz40 hgz40;have p12 : 0 ≤ (x670001_1 : Int):=zDe (by first | (with_reducible assumption) | assumption);have q12 : x670001_1 < (a0.size : Int):=zDe (by first | (with_reducible assumption) | assumption);have hx12:=bt_at a0 x670001_1;replace p12:=eq_true p12;replace q12:=eq_true q12;go_wp2_with (first | ((with_reducible refine gate_callee (f:=67) rfl ?_);refine goesL_ (some 46) rfl rfl Try.func67 (by kernel_rfl) rfl #[.pointer (some ⟨gb669,0,none⟩)] rfl (by (try simp only [List.map_toArray,List.map_cons,List.map_nil]);first | done | rfl | (simp only [List.length_drop,List.length_take];rfl)) ?_;(with_reducible refine (spec_l06Var.calls kj4 gb669 x670000_1 (wrap64 (x670001_1 + 1)) x670002_1 t670 t671 t672 t673 w _ ?side1 ?side2 A13.out).mono ?_);(case side1=>repeat (first | (with_reducible first | exact HI669.out | apply IsS99.alloc | apply IsS99.drewN | apply IsS99.drew | apply IsS99.set_0 | apply IsS99.set_1 | apply IsS99.set_2) | exact HI669.out));(case side2=>repeat (first | (with_reducible first | exact HB.out | apply below_alloc | apply pw_below_drewN | apply below_drew1 | refine below_set ?_ (IsS99.ge HI669.out)) | exact HB.out));rintro e w41 ⟨rfl,hi,hb,hk⟩;refine ⟨_,rfl,?_⟩;have n0_:=zMk (Kd.R_mono (Kd.R_keep (IsS99.apart (show IsS99 w _ gb669 x670000_1 (wrap64 (x670001_1 + 1)) x670002_1 from by repeat (first | (with_reducible first | exact HI669.out | apply IsS99.alloc | apply IsS99.drewN | apply IsS99.drew | apply IsS99.set_0 | apply IsS99.set_1 | apply IsS99.set_2) | exact HI669.out)) (by (with_reducible repeat (first | apply Kd.R_alloc | apply Kd.R_drewN | apply Kd.R_drew));exact (Kd.R_mono (Kd.R_far (p:=⟨gb669,1,none⟩) (IsS99.apart HI669.out HO_4.out (by decide)) (fun _ hk=>hk.2) (.int .i64 (wrap64 (x670001_1 + 1)))) (fun _ h_=>h_.1))) (by decide)) hk (fun _ h=>h.2)) (fun _ h=>h.1));have n1_:=zMk (hb);have n2_:=zMk (hi);clear HO_4;clear HB;clear HI669;have HO_4:=n0_;have HB:=n1_;have HI669:=n2_;clear n0_ n1_ n2_;(try clear hb);(try clear hb2);(try clear hk);(try clear hi)) | ((with_reducible refine gate_dst (N:=7) rfl ?_);refine box_event ?hg (N:=7) ?hd (cs:=#[.int .i64 0,.int .i64 0,.int .i64 0,.int .i64 0]) (t:=45) ?hr ?_;(case hd=>rfl);(case hg=>rfl);(case hr=>first | (go_simp;done) | (go_simp;rfl));intro gb674 hg w42 hbox hb;have n0_:=zMk (Kd.R_below (Kd.R_elderB (rs HO_4) gb674 (Nat.le_of_eq hg.symm)) hb);have n1_:=zMk (IsS99.below (by repeat (first | (with_reducible first | exact HI669.out | apply IsS99.alloc | apply IsS99.drewN | apply IsS99.drew | apply IsS99.set_0 | apply IsS99.set_1 | apply IsS99.set_2) | exact HI669.out)) hb);have n2_:=zMk (below_step (by repeat (first | (with_reducible first | exact HB.out | apply below_alloc | apply pw_below_drewN | apply below_drew1 | refine below_set ?_ (IsS99.ge HI669.out)) | exact HB.out)) hb);have n3_:=zMk (hbox);have n4_:=zMk ((by rw [hg];exact (below_size (by repeat (first | (with_reducible first | exact HB.out | apply below_alloc | apply pw_below_drewN | apply below_drew1 | refine below_set ?_ (IsS99.ge HI669.out)) | exact HB.out))) : w.heap.size ≤ gb674));have n5_:=zMk ((by rw [hg];exact (below_size (by repeat (first | (with_reducible first | exact HB.out | apply below_alloc | apply pw_below_drewN | apply below_drew1 | refine below_set ?_ (IsS99.ge HI669.out)) | exact HB.out))) : w.heap.size ≤ gb674));have n6_:=zMk ((by rw [hg];exact Nat.ne_of_lt (IsS99.lt (show IsS99 w _ gb669 t671 t672 t673 from by repeat (first | (with_reducible first | exact HI669.out | apply IsS99.alloc | apply IsS99.drewN | apply IsS99.drew | apply IsS99.set_0 | apply IsS99.set_1 | apply IsS99.set_2) | exact HI669.out))) : gb669 ≠ gb674));have n7_:=zMk ((by rw [hg];exact Nat.ne_of_gt (IsS99.lt (show IsS99 w _ gb669 t671 t672 t673 from by repeat (first | (with_reducible first | exact HI669.out | apply IsS99.alloc | apply IsS99.drewN | apply IsS99.drew | apply IsS99.set_0 | apply IsS99.set_1 | apply IsS99.set_2) | exact HI669.out))) : gb674 ≠ gb669));clear HO_4;clear HI669;clear HB;have HO_4:=n0_;have HI669:=n1_;have HB:=n2_;have BK674:=n3_;have GW674:=n4_;have GE674:=n5_;have NB669_674:=n6_;have NB674_669:=n7_;clear n0_ n1_ n2_ n3_ n4_ n5_ n6_ n7_;clear hb hbox hg;have hnb43:=NB674_669.out;have hnc43:=NB669_674.out;have hcz44_0 : w42.cell? ⟨gb674,0,none⟩ = some (.int .i64 0):=(zCl BK674.out 0).trans rfl;have hcz44_1 : w42.cell? ⟨gb674,1,none⟩ = some (.int .i64 0):=(zCl BK674.out 1).trans rfl;have hcz44_2 : w42.cell? ⟨gb674,2,none⟩ = some (.int .i64 0):=(zCl BK674.out 2).trans rfl;have hcz44_3 : w42.cell? ⟨gb674,3,none⟩ = some (.int .i64 0):=(zCl BK674.out 3).trans rfl;have hfz44_0:=zFr BK674.out 0;have hfz44_1:=zFr BK674.out 1;have hfz44_2:=zFr BK674.out 2;have hfz44_3:=zFr BK674.out 3) | ((with_reducible refine gate_callee (f:=67) rfl ?_);refine goesL_ (some 49) rfl rfl Try.func67 (by kernel_rfl) rfl #[.pointer (some ⟨gb669,0,none⟩)] rfl (by (try simp only [List.map_toArray,List.map_cons,List.map_nil]);first | done | rfl | (simp only [List.length_drop,List.length_take];rfl)) ?_;(with_reducible refine (spec_l06Var.calls kj4 gb669 t671 t672 t673 t675 t676 t677 false w _ ?side1 ?side2 A14.out).mono ?_);(case side1=>repeat (first | (with_reducible first | exact HI669.out | apply IsS99.alloc | apply IsS99.drewN | apply IsS99.drew | apply IsS99.set_0 | apply IsS99.set_1 | apply IsS99.set_2 | refine IsS99.far ?_ NB669_674.out _) | exact HI669.out));(case side2=>repeat (first | (with_reducible first | exact HB.out | apply below_alloc | apply pw_below_drewN | apply below_drew1 | refine below_set ?_ (IsS99.ge HI669.out) | refine below_set ?_ GE674.out) | exact HB.out));rintro e w45 ⟨rfl,hi,hb,hk⟩;refine ⟨_,rfl,?_⟩;have n0_:=zMk (Kd.R_mono (Kd.R_keep (IsS99.apart (show IsS99 w _ gb669 t671 t672 t673 from by repeat (first | (with_reducible first | exact HI669.out | apply IsS99.alloc | apply IsS99.drewN | apply IsS99.drew | apply IsS99.set_0 | apply IsS99.set_1 | apply IsS99.set_2 | refine IsS99.far ?_ NB669_674.out _) | exact HI669.out)) (by (with_reducible repeat (first | apply Kd.R_alloc | apply Kd.R_drewN | apply Kd.R_drew));exact (Kd.R_mono (Kd.R_far (p:=⟨gb674,3,none⟩) (Kd.R_far (p:=⟨gb674,2,none⟩) (Kd.R_far (p:=⟨gb674,1,none⟩) (Kd.R_far (p:=⟨gb674,0,none⟩) (Kd.R_mono HO_4.out (fun k_ hk=>(⟨hk,hk.2⟩ : _ ∧ k_ ≠ gb674))) (fun _ hk=>hk.2) (.int .i64 (wrap64 (Int.tdiv (wrap64 (bt a0 x670001_1)) 16)))) (fun _ hk=>hk.2) (.int .i64 (Int.tmod (wrap64 (bt a0 x670001_1)) 16))) (fun _ hk=>hk.2) (.int .i64 t670)) (fun _ hk=>hk.2) (.int .i64 0)) (fun _ h_=>h_.1))) (by decide)) hk (fun _ h=>h.2)) (fun _ h=>h.1));have n1_:=zMk (KeepBut.blk hk (g':=gb674) (o:=.cells #[.int .i64 (wrap64 (Int.tdiv (wrap64 (bt a0 x670001_1)) 16)),.int .i64 (Int.tmod (wrap64 (bt a0 x670001_1)) 16),.int .i64 t670,.int .i64 0] 45 (0,0)) (by (with_reducible repeat (first | refine blk_drewN ?_ _ | refine blk_drew ?_ | refine blk_alloc ?_ _));refine blk_put (cs:=#[.int .i64 (wrap64 (Int.tdiv (wrap64 (bt a0 x670001_1)) 16)),.int .i64 (Int.tmod (wrap64 (bt a0 x670001_1)) 16),.int .i64 t670,.int .i64 0]) ?_ 3 _ rfl;(with_reducible repeat (first | refine blk_drewN ?_ _ | refine blk_drew ?_ | refine blk_alloc ?_ _));refine blk_put (cs:=#[.int .i64 (wrap64 (Int.tdiv (wrap64 (bt a0 x670001_1)) 16)),.int .i64 (Int.tmod (wrap64 (bt a0 x670001_1)) 16),.int .i64 0,.int .i64 0]) ?_ 2 _ rfl;(with_reducible repeat (first | refine blk_drewN ?_ _ | refine blk_drew ?_ | refine blk_alloc ?_ _));refine blk_put (cs:=#[.int .i64 (wrap64 (Int.tdiv (wrap64 (bt a0 x670001_1)) 16)),.int .i64 0,.int .i64 0,.int .i64 0]) ?_ 1 _ rfl;(with_reducible repeat (first | refine blk_drewN ?_ _ | refine blk_drew ?_ | refine blk_alloc ?_ _));refine blk_put (cs:=#[.int .i64 0,.int .i64 0,.int .i64 0,.int .i64 0]) ?_ 0 _ rfl;(with_reducible repeat (first | refine blk_drewN ?_ _ | refine blk_drew ?_ | refine blk_alloc ?_ _));exact BK674.out) NB674_669.out (by simp));have n2_:=zMk (hb);have n3_:=zMk (hi);clear HO_4;clear BK674;clear HB;clear HI669;have HO_4:=n0_;have BK674:=n1_;have HB:=n2_;have HI669:=n3_;clear n0_ n1_ n2_ n3_;(try clear hb);(try clear hb2);(try clear hk);(try clear hi);have hcz46_0 : w45.cell? ⟨gb674,0,none⟩ = some (.int .i64 (wrap64 (Int.tdiv (wrap64 (bt a0 x670001_1)) 16))):=(zCl BK674.out 0).trans rfl;have hcz46_1 : w45.cell? ⟨gb674,1,none⟩ = some (.int .i64 (Int.tmod (wrap64 (bt a0 x670001_1)) 16)):=(zCl BK674.out 1).trans rfl;have hcz46_2 : w45.cell? ⟨gb674,2,none⟩ = some (.int .i64 t670):=(zCl BK674.out 2).trans rfl;have hcz46_3 : w45.cell? ⟨gb674,3,none⟩ = some (.int .i64 0):=(zCl BK674.out 3).trans rfl;have hfz46_0:=zFr BK674.out 0;have hfz46_1:=zFr BK674.out 1;have hfz46_2:=zFr BK674.out 2;have hfz46_3:=zFr BK674.out 3;obtain ⟨HGz47,hgz47⟩:=HI669.out;have hcz47_0:=cellS99_0 HGz47;have hcz47_1:=cellS99_1 HGz47;have hcz47_2:=cellS99_2 HGz47;have hfz47_0:=zFr HGz47 0;have hfz47_1:=zFr HGz47 1;have hfz47_2:=zFr HGz47 2;clear HGz47 hgz47) | (go_at_call 51;(with_reducible refine (spec_RecOk.calls kj4 (wrap64 (Int.tdiv (wrap64 (bt a0 x670001_1)) 16)) (Int.tmod (wrap64 (bt a0 x670001_1)) 16) t670 t675 false _ A26.out).mono ?_);rintro e w48 ⟨rfl,hb⟩;have n0_:=zMk (Kd.R_below (by (with_reducible repeat (first | apply Kd.R_alloc | apply Kd.R_drewN | apply Kd.R_drew));exact (Kd.R_mono (Kd.R_far (p:=⟨gb674,3,none⟩) (Kd.R_mono HO_4.out (fun k_ hk=>(⟨hk,hk.2⟩ : _ ∧ k_ ≠ gb674))) (fun _ hk=>hk.2) (.int .i64 t675)) (fun _ h_=>h_.1))) hb);have n1_:=zMk (IsS99.below (show IsS99 w (w45.setCell ⟨gb674,3,none⟩ (.int .i64 t675)) gb669 t676 t677 false from by repeat (first | (with_reducible first | exact HI669.out | apply IsS99.alloc | apply IsS99.drewN | apply IsS99.drew | apply IsS99.set_0 | apply IsS99.set_1 | apply IsS99.set_2 | refine IsS99.far ?_ NB669_674.out _) | exact HI669.out)) hb);have n2_:=zMk (blk_below (g:=gb674) (o:=.cells #[.int .i64 (wrap64 (Int.tdiv (wrap64 (bt a0 x670001_1)) 16)),.int .i64 (Int.tmod (wrap64 (bt a0 x670001_1)) 16),.int .i64 t670,.int .i64 t675] 45 (0,0)) (by (with_reducible repeat (first | refine blk_drewN ?_ _ | refine blk_drew ?_ | refine blk_alloc ?_ _));refine blk_put (cs:=#[.int .i64 (wrap64 (Int.tdiv (wrap64 (bt a0 x670001_1)) 16)),.int .i64 (Int.tmod (wrap64 (bt a0 x670001_1)) 16),.int .i64 t670,.int .i64 0]) ?_ 3 _ rfl;(with_reducible repeat (first | refine blk_drewN ?_ _ | refine blk_drew ?_ | refine blk_alloc ?_ _));exact BK674.out) hb);have n3_:=zMk (below_step (by repeat (first | (with_reducible first | exact HB.out | apply below_alloc | apply pw_below_drewN | apply below_drew1 | refine below_set ?_ (IsS99.ge HI669.out) | refine below_set ?_ GE674.out) | exact HB.out)) hb);clear HO_4;clear HI669;clear BK674;clear HB;have HO_4:=n0_;have HI669:=n1_;have BK674:=n2_;have HB:=n3_;clear n0_ n1_ n2_ n3_;(try clear hb);(try clear hb2);(try clear hk);(try clear hi)) | ((with_reducible refine gate_dst (N:=60) rfl ?_);refine Kd.R_lit k45 _ 45 ?hg (N:=60) ?hd (xs:=([] : List (S45))) (inner:=[]) (ok:=fun _=>True) (okp:=fun _=>True) ?hr ?hp (fun _ hk=>hk) trivial (Below.refl _ _) (Nat.le_refl _) (by simp) ?_;(case hd=>rfl);(case hg=>rfl);(case hr=>first | (go_simp;done) | (go_simp;rfl));(case hp=>exact (Reps.none _ _));intro v687 w49 ho50 hb hg_ hnew_;clear hg_ hnew_;(first | rw [← Ny686.out] at ho50 | (simp only [Int.reduceToNat] at ho50;rw [← Ny686.out] at ho50));have n0_:=zMk (Kd.R_elder' (rs HO_4) (Kd.R_base ho50) hb);have n1_:=zMk (Kd.R_lower (Kd.R_newB (Kd.R_new' ho50 (Kd.R_lt (rs HO_4))) (g:=gb674) (o:=.cells #[.int .i64 (wrap64 (Int.tdiv (wrap64 (bt a0 x670001_1)) 16)),.int .i64 (Int.tmod (wrap64 (bt a0 x670001_1)) 16),.int .i64 t670,.int .i64 t675] 45 (0,0)) (bs BK674)) (below_size (by repeat (first | (with_reducible first | exact HB.out | apply below_alloc | apply pw_below_drewN | apply below_drew1 | refine below_set ?_ (IsS99.ge HI669.out) | refine below_set ?_ GE674.out) | exact HB.out))));have n2_:=zMk (IsS99.below (by repeat (first | (with_reducible first | exact HI669.out | apply IsS99.alloc | apply IsS99.drewN | apply IsS99.drew | apply IsS99.set_0 | apply IsS99.set_1 | apply IsS99.set_2 | refine IsS99.far ?_ NB669_674.out _) | exact HI669.out)) hb);have n3_:=zMk (blk_below (g:=gb674) (o:=.cells #[.int .i64 (wrap64 (Int.tdiv (wrap64 (bt a0 x670001_1)) 16)),.int .i64 (Int.tmod (wrap64 (bt a0 x670001_1)) 16),.int .i64 t670,.int .i64 t675] 45 (0,0)) (bs BK674) hb);have n4_:=zMk (below_step (by repeat (first | (with_reducible first | exact HB.out | apply below_alloc | apply pw_below_drewN | apply below_drew1 | refine below_set ?_ (IsS99.ge HI669.out) | refine below_set ?_ GE674.out) | exact HB.out)) hb);clear HO_4;clear HI669;clear BK674;clear HB;have HO_4:=n0_;have HO688:=n1_;have HI669:=n2_;have BK674:=n3_;have HB:=n4_;clear n0_ n1_ n2_ n3_ n4_;clear hb ho50))
        go_ret2
        exact ⟨_,by first | rfl | (simp [errW_none,errW_some] <;> rfl) | (simp [*,errW_none,errW_some] <;> rfl),by (with_reducible repeat (first | apply Kd.R_alloc | apply Kd.R_drewN | apply Kd.R_drew));exact Kd.R_mono HO688.out (fun _ hk=>trivial),by repeat (first | (with_reducible first | exact HB.out | apply below_alloc | apply pw_below_drewN | apply below_drew1 | refine below_set ?_ (IsS99.ge HI669.out) | refine below_set ?_ GE674.out) | exact HB.out)⟩
       rw [if_neg c11] at H;exact absurd H (by simp)
      rw [if_neg c10] at H;exact absurd H (by simp)
     replace c9:=Bool.eq_false_iff.mpr c9;subst c9;have H1 : (some (x4_1,true)) = some (r1,r2):=by rw [if_neg (show ¬ (false = true) by decide)] at H;exact H
     clear H;have H:=H1;clear H1;simp only [Option.some.injEq,Prod.mk.injEq] at H;obtain ⟨rfl,rfl⟩:=H
     go_wp2
     go_ret2
     exact ⟨_,by first | rfl | (simp [errW_none,errW_some] <;> rfl) | (simp [*,errW_none,errW_some] <;> rfl),rs HO_4,by repeat (first | (with_reducible first | exact HB.out | apply below_alloc | apply pw_below_drewN | apply below_drew1 | refine below_set ?_ (IsS99.ge HI669.out)) | exact HB.out)⟩
end Go.Proofs.Ytodokejcmbjpbaa.PK

/- Records read from bytes, as one function; the program's and the reference's ReadRecs tell them. -/
namespace Go.Proofs.Ytodokejcmbjpbaa.Pu
open Go.RowKit Go.Proofs.Ytodokejcmbjpbaa.PK Go.Proofs.YtodokejcmbjpbaaW.PrintWords
theorem rvL_range : ∀ (l : List Nat) (d k n : Nat) {m c : Nat}, rvL l d k n = some (m, c) → k + 1 ≤ c ∧ c ≤ k + l.length ∧ m ≤ 1000000000
  | l, 0, k, n, m, c, h => by rw [rvL_zero] at h; cases h
  | [], d + 1, k, n, m, c, h => by rw [rvL_nil] at h; cases h
  | x :: r, d + 1, k, n, m, c, h => by
    rw [rvL_cons] at h
    by_cases h1 : x ≥ 128
    · rw [if_pos h1] at h
      have := rvL_range r d (k + 1) _ h
      simp only [List.length_cons]
      omega
    · rw [if_neg h1] at h
      by_cases h2 : (x = 0 ∧ k > 0) ∨ n + x % 128 * 128 ^ k > 1000000000
      · rw [if_pos h2] at h; cases h
      · rw [if_neg h2] at h
        injection h with h
        injection h with h3 h4
        simp only [List.length_cons]
        omega
theorem rvB_range (t : ByteArray) (a : Int) : ((rvB t a).2.2 = false ∧ rvB t a = (0, 0, false)) ∨ ((rvB t a).2.2 = true ∧ 0 ≤ a ∧ a < (rvB t a).2.1 ∧ (rvB t a).2.1 ≤ (t.size : Int) ∧ 0 ≤ (rvB t a).1 ∧ (rvB t a).1 ≤ 1000000000) := by
  unfold rvB
  by_cases h : 0 ≤ a ∧ a ≤ (t.size : Int)
  · rw [if_pos h]
    cases e : rvL ((byt t).drop a.toNat) 5 0 0 with
    | none => exact .inl ⟨rfl, rfl⟩
    | some z =>
      obtain ⟨m, c⟩ := z
      have h1 := rvL_range _ _ _ _ e
      rw [List.length_drop, byt_len] at h1
      refine .inr ⟨rfl, ?_⟩
      show 0 ≤ a ∧ a < a + (c : Int) ∧ a + (c : Int) ≤ (t.size : Int) ∧ 0 ≤ (m : Int) ∧ (m : Int) ≤ 1000000000
      omega
  · rw [if_neg h]; exact .inl ⟨rfl, rfl⟩
def recAt (t : ByteArray) (i : Nat) : S45 := ⟨(((byt t).getD i 0 / 16 : Nat) : Int), (((byt t).getD i 0 % 16 : Nat) : Int), (rvB t ((i + 1 : Nat) : Int)).1, (rvB t (rvB t ((i + 1 : Nat) : Int)).2.1).1⟩
def recEnd (t : ByteArray) (i : Nat) : Int := (rvB t (rvB t ((i + 1 : Nat) : Int)).2.1).2.1
def recMay (t : ByteArray) (i : Nat) : Bool := (rvB t ((i + 1 : Nat) : Int)).2.2 && (rvB t (rvB t ((i + 1 : Nat) : Int)).2.1).2.2
def rrB (t : ByteArray) : Nat → Nat → List S45 → List S45 × Bool
  | 0, _, acc => (acc, true)
  | d + 1, i, acc => if i < t.size then (if (recMay t i && recOk (recAt t i).f0 (recAt t i).f1 (recAt t i).f2 (recAt t i).f3) = true then rrB t d (recEnd t i).toNat (acc ++ [recAt t i]) else ([], false)) else (acc, true)
theorem rrB_len (t : ByteArray) : ∀ (d i : Nat) (acc : List S45), (rrB t d i acc).1.length ≤ acc.length + d
  | 0, i, acc => Nat.le_refl _
  | d + 1, i, acc => by
    unfold rrB
    by_cases h : i < t.size
    · rw [if_pos h]
      by_cases h2 : (recMay t i && recOk (recAt t i).f0 (recAt t i).f1 (recAt t i).f2 (recAt t i).f3) = true
      · rw [if_pos h2]
        have := rrB_len t d (recEnd t i).toNat (acc ++ [recAt t i])
        simp only [List.length_append, List.length_cons, List.length_nil] at this
        omega
      · rw [if_neg h2]; exact Nat.zero_le _
    · rw [if_neg h]; show acc.length ≤ _; omega
theorem div16 {x : Nat} (h : x < 256) : wrap64 (Int.tdiv (wrap64 ((x : Nat) : Int)) 16) = ((x / 16 : Nat) : Int) ∧ Int.tmod (wrap64 ((x : Nat) : Int)) 16 = ((x % 16 : Nat) : Int) := by
  rw [w64 (x := ((x : Nat) : Int)) (by omega) (by omega), Int.tdiv_eq_ediv_of_nonneg (by omega), Int.tmod_eq_emod_of_nonneg (by omega), w64 (by omega) (by omega)]
  omega
theorem iReadRecs_ev (t : ByteArray) (hs : t.size ≤ 1048576) : Ev (fun k => impl_ReadRecs.f k t) (rrB t (t.size + 1) 0 []) := by
  unfold impl_ReadRecs.f
  have main : ∀ (d i : Nat) (acc : List S45), t.size < i + d → i ≤ t.size → acc.length ≤ i → Ev (fun K => impl_ReadRecs.l0 K t acc (i : Int)) (rrB t d i acc) := by
    intro d
    induction d with
    | zero => intro i acc h1 h2 _; omega
    | succ d ih =>
      intro i acc h1 h2 h3
      unfold rrB
      by_cases hi : i < t.size
      · rw [if_pos hi]
        have hx := byt_get_lt t i
        have eb := bt_byt t i
        obtain ⟨d1, d2⟩ := div16 hx
        have A := rvB_range t ((i + 1 : Nat) : Int)
        have C := rvB_range t (rvB t ((i + 1 : Nat) : Int)).2.1
        have ea := iReadVar_ev t ((i + 1 : Nat) : Int) (by omega) (by omega)
        have ec := iReadVar_ev t (rvB t ((i + 1 : Nat) : Int)).2.1 (by omega) (by
          rcases A with ⟨_, h⟩ | h
          · rw [h]; show (0 : Int) ≤ _; omega
          · omega)
        refine Ev.step (f := fun K => (impl_ReadVar.f K t ((i + 1 : Nat) : Int)).bind fun bt150 => (impl_ReadVar.f K t bt150.2.1).bind fun bt153 => if 0 ≤ (i : Int) then (if bt150.2.2 = true then (if bt153.2.2 = true then ((impl_RecOk.f K (((byt t).getD i 0 / 16 : Nat) : Int) (((byt t).getD i 0 % 16 : Nat) : Int) bt150.1 bt153.1).bind fun t157 => (if t157 = true then impl_ReadRecs.l0 K t (acc ++ [(⟨(((byt t).getD i 0 / 16 : Nat) : Int), (((byt t).getD i 0 % 16 : Nat) : Int), bt150.1, bt153.1⟩ : S45)]) bt153.2.1 else some ([], false))) else some ([], false)) else some ([], false)) else none) (fun K => ?_) (ev_bind ea (ev_bind ec ?_))
        · simp only [impl_ReadRecs.l0]
          rw [if_pos (by omega), wsucc (n := t.size) hi (by omega), eb, d1, d2]
          simp only [if_pos (show acc.length < 4398046511104 by omega)]
        · simp only [if_pos (show (0 : Int) ≤ (i : Int) by omega)]
          unfold recMay
          rcases A with ⟨h4, h5⟩ | ⟨h4, h5⟩
          · rw [h4]; exact Ev.now _
          · simp only [h4, if_true, Bool.true_and]
            rcases C with ⟨h6, h7⟩ | ⟨h6, h7⟩
            · rw [h6]; exact Ev.now _
            · simp only [h6, if_true, Bool.true_and]
              refine ev_bind (iRecOk_ev _ _ _ _) ?_
              show Ev (fun K => if recOk (recAt t i).f0 (recAt t i).f1 (recAt t i).f2 (recAt t i).f3 = true then impl_ReadRecs.l0 K t (acc ++ [recAt t i]) (recEnd t i) else some ([], false)) _
              by_cases h8 : recOk (recAt t i).f0 (recAt t i).f1 (recAt t i).f2 (recAt t i).f3 = true
              · simp only [if_pos h8]
                have h9 : recEnd t i = (((recEnd t i).toNat : Nat) : Int) := by unfold recEnd; omega
                rw [h9, Int.toNat_natCast]
                exact ih (recEnd t i).toNat (acc ++ [recAt t i]) (by unfold recEnd; omega) (by unfold recEnd; omega) (by simp only [List.length_append, List.length_cons, List.length_nil]; unfold recEnd; omega)
              · simp only [if_neg h8]; exact Ev.now _
      · rw [if_neg hi]
        exact ev_some fun K => by simp only [impl_ReadRecs.l0]; rw [if_neg (by omega)]
  exact main (t.size + 1) 0 [] (by omega) (by omega) (by simp)
theorem sVar_ok (t : ByteArray) (a : Int) (hs : t.size ≤ 1048576) : Ev (fun k => spec_l06Var.f k t a false) (if (rvB t a).2.2 = true then ((rvB t a).1, t, (rvB t a).2.1, false) else (0, t, a, true)) := by
  unfold spec_l06Var.f
  refine ev_bind (sReadVar_ev t a (by omega)) ?_
  simp only [Bool.false_eq_true, if_false]
  by_cases h : (rvB t a).2.2 = true
  · simp only [if_pos h]; exact Ev.now _
  · simp only [if_neg h]; exact Ev.now _
theorem sVar_bad (t : ByteArray) (a : Int) (hs : t.size ≤ 1048576) : Ev (fun k => spec_l06Var.f k t a true) (0, t, a, true) := by
  unfold spec_l06Var.f
  refine ev_bind (sReadVar_ev t a (by omega)) ?_
  simp only [if_true]; exact Ev.now _
theorem sReadRecs_ev (t : ByteArray) (hs : t.size ≤ 1048576) : Ev (fun k => spec_ReadRecs.f k t) (rrB t (t.size + 1) 0 []) := by
  unfold spec_ReadRecs.f
  have main : ∀ (d i : Nat) (acc : List S45), t.size < i + d → i ≤ t.size → acc.length ≤ i → Ev (fun K => spec_ReadRecs.l0 K t acc t (i : Int) false) (rrB t d i acc) := by
    intro d
    induction d with
    | zero => intro i acc h1 h2 _; omega
    | succ d ih =>
      intro i acc h1 h2 h3
      unfold rrB
      by_cases hi : i < t.size
      · rw [if_pos hi]
        have hx := byt_get_lt t i
        have eb := bt_byt t i
        obtain ⟨d1, d2⟩ := div16 hx
        have A := rvB_range t ((i + 1 : Nat) : Int)
        have C := rvB_range t (rvB t ((i + 1 : Nat) : Int)).2.1
        have ea := sVar_ok t ((i + 1 : Nat) : Int) hs
        have ec := sVar_ok t (rvB t ((i + 1 : Nat) : Int)).2.1 hs
        refine Ev.step (f := fun K => spec_ReadRecs.j1 K t acc true t (i : Int) false) (fun K => by simp only [spec_ReadRecs.l0]; rw [if_pos (by omega)]; rfl) ?_
        refine Ev.step (f := fun K => (spec_l06Var.f K t ((i + 1 : Nat) : Int) false).bind fun bt124 => (spec_l06Var.f K bt124.2.1 bt124.2.2.1 bt124.2.2.2).bind fun bt129 => if bt129.2.2.2 = true then some ([], false) else (spec_RecOk.f K (((byt t).getD i 0 / 16 : Nat) : Int) (((byt t).getD i 0 % 16 : Nat) : Int) bt124.1 bt129.1).bind fun t136 => if t136 = true then spec_ReadRecs.l0 K t (acc ++ [(⟨(((byt t).getD i 0 / 16 : Nat) : Int), (((byt t).getD i 0 % 16 : Nat) : Int), bt124.1, bt129.1⟩ : S45)]) bt129.2.1 bt129.2.2.1 bt129.2.2.2 else some ([], false)) (fun K => ?_) (ev_bind ea ?_)
        · simp only [spec_ReadRecs.j1]
          rw [if_pos trivial, if_pos (by omega), if_pos (by omega), wsucc (n := t.size) hi (by omega), eb, d1, d2]
          simp only [if_pos (show acc.length < 4398046511104 by omega)]
        · unfold recMay
          rcases A with ⟨h4, h5⟩ | ⟨h4, h5⟩
          · simp only [h4, Bool.false_eq_true, if_false, Bool.false_and]
            refine ev_bind (sVar_bad t _ hs) ?_
            simp only [if_true]; exact Ev.now _
          · simp only [h4, if_true, Bool.true_and]
            refine ev_bind ec ?_
            rcases C with ⟨h6, h7⟩ | ⟨h6, h7⟩
            · simp only [h6, Bool.false_eq_true, if_false, Bool.false_and, if_true]; exact Ev.now _
            · simp only [h6, if_true, Bool.true_and, Bool.false_eq_true, if_false]
              refine ev_bind (sRecOk_ev _ _ _ _) ?_
              show Ev (fun K => if recOk (recAt t i).f0 (recAt t i).f1 (recAt t i).f2 (recAt t i).f3 = true then spec_ReadRecs.l0 K t (acc ++ [recAt t i]) t (recEnd t i) false else some ([], false)) _
              by_cases h8 : recOk (recAt t i).f0 (recAt t i).f1 (recAt t i).f2 (recAt t i).f3 = true
              · simp only [if_pos h8]
                have h9 : recEnd t i = (((recEnd t i).toNat : Nat) : Int) := by unfold recEnd; omega
                rw [h9, Int.toNat_natCast]
                exact ih (recEnd t i).toNat (acc ++ [recAt t i]) (by unfold recEnd; omega) (by unfold recEnd; omega) (by simp only [List.length_append, List.length_cons, List.length_nil]; unfold recEnd; omega)
              · simp only [if_neg h8]; exact Ev.now _
      · rw [if_neg hi]
        refine Ev.step (f := fun K => spec_ReadRecs.j1 K t acc false t (i : Int) false) (fun K => by simp only [spec_ReadRecs.l0]; rw [if_neg (by omega)]) (ev_some fun K => ?_)
        simp only [spec_ReadRecs.j1]
        rfl
  exact main (t.size + 1) 0 [] (by omega) (by omega) (by simp)
end Go.Proofs.Ytodokejcmbjpbaa.Pu

/- What is gathered of pages, as one function; the program's Gather tells it. -/
namespace Go.Proofs.Ytodokejcmbjpbaa.Pu
open Go.RowKit Go.Proofs.Ytodokejcmbjpbaa.PK Go.Proofs.YtodokejcmbjpbaaW.PrintWords
theorem rdIF_nat (l : List S36) (i : Nat) : rd_T36 l (i : Int) = l.getD i z36 := rfl
theorem dropG {α : Type} {l : List α} {i : Nat} (z : α) (h : i < l.length) : l.drop i = l.getD i z :: l.drop (i + 1) := by
  rw [List.drop_eq_getElem_cons h, List.getD_eq_getElem?_getD, List.getElem?_eq_getElem h]; rfl
theorem memG_cons_ne {x y : Int} {t : List Int} (h : ¬ y = x) : decide (x ∈ y :: t) = decide (x ∈ t) := by
  have : ¬ x = y := fun e => h e.symm
  simp [this]
theorem hasG_ev (l : List Int) (x : Int) (hl : l.length ≤ 9223372036854775807) : Ev (fun k => impl_hasInt.f k l x) (decide (x ∈ l)) := by
  have main : ∀ (d i : Nat), i + d = l.length → Ev (fun k => impl_hasInt.l0 k x l l.length (i : Int)) (decide (x ∈ l.drop i)) := by
    intro d
    induction d with
    | zero => intro i hi; exact ev_some fun k => by simp only [impl_hasInt.l0]; rw [if_neg (by omega), List.drop_eq_nil_of_le (by omega)]; simp
    | succ d ih =>
      intro i hi
      have hil : i < l.length := by omega
      rw [dropG 0 hil]
      by_cases h : l.getD i 0 = x
      · rw [h, decide_eq_true (List.mem_cons_self)]
        refine ev_some fun k => ?_
        simp only [impl_hasInt.l0]
        rw [if_pos (by omega), if_pos (by omega), if_pos (by omega), show rd l (i : Int) = l.getD i 0 from rfl, if_pos h]
      · rw [memG_cons_ne h]
        refine Ev.step (fun k => ?_) (ih (i + 1) (by omega))
        simp only [impl_hasInt.l0]
        rw [if_pos (by omega), if_pos (by omega), if_pos (by omega), show rd l (i : Int) = l.getD i 0 from rfl, if_neg h, wsucc (n := l.length) hil hl]
  have h := main l.length 0 (by omega)
  rw [List.drop_zero] at h
  exact h
/-- The page of a transaction with a part, and a count where that is told. -/
def metaT (x p c : Int) (f : S36) : Bool := decide (f.f2.f0 = 2) && (decide (f.f2.f2 = x) && (decide (f.f2.f3 = p) && (decide (c = 0) || decide (f.f2.f4 = c))))
def metaB (l : List S36) (x p c : Int) : Option S33 := (l.find? (metaT x p c)).map fun f => f.f2
def metaR : Option S33 → Int × Int × Int × Int × Int × ByteArray × Bool
  | none => (0, 0, 0, 0, 0, ⟨#[]⟩, false)
  | some q => (q.f0, q.f1, q.f2, q.f3, q.f4, q.f5, true)
theorem iMeta_ev (l : List S36) (x p c : Int) (hl : l.length ≤ 9223372036854775807) : Ev (fun k => impl_metaOf.f k l x p c) (metaR (metaB l x p c)) := by
  have main : ∀ (d i : Nat), i + d = l.length → Ev (fun k => impl_metaOf.l0 k x p c l l.length (i : Int)) (metaR (metaB (l.drop i) x p c)) := by
    intro d
    induction d with
    | zero => intro i hi; exact ev_some fun k => by simp only [impl_metaOf.l0]; rw [if_neg (by omega), List.drop_eq_nil_of_le (by omega)]; rfl
    | succ d ih =>
      intro i hi
      have hil : i < l.length := by omega
      have st : ∀ k, impl_metaOf.l0 (k + 1) x p c l l.length (i : Int) = if metaT x p c (l.getD i z36) = true then some (metaR (some (l.getD i z36).f2)) else impl_metaOf.l0 k x p c l l.length ((i + 1 : Nat) : Int) := fun k => by
        simp only [impl_metaOf.l0]
        rw [if_pos (by omega), if_pos (by omega), if_pos (by omega), rdIF_nat, wsucc (n := l.length) hil hl]
        unfold metaT metaR
        generalize l.getD i z36 = f
        by_cases h1 : f.f2.f0 = 2
        · by_cases h2 : f.f2.f2 = x
          · by_cases h3 : f.f2.f3 = p
            · by_cases h4 : c = 0
              · simp [h1, h2, h3, h4]
              · by_cases h5 : f.f2.f4 = c <;> simp [h1, h2, h3, h4, h5]
            · simp [h1, h2, h3]
          · simp [h1, h2]
        · simp [h1]
      rw [dropG z36 hil]
      unfold metaB
      rw [List.find?_cons]
      by_cases h : metaT x p c (l.getD i z36) = true
      · rw [h]
        exact ev_some fun k => by rw [st k, if_pos h]; rfl
      · rw [Bool.eq_false_iff.mpr h]
        exact Ev.step (fun k => by rw [st k, if_neg h]) (ih (i + 1) (by omega))
  have h := main l.length 0 (by omega)
  rw [List.drop_zero] at h
  exact h
theorem meta_mem {l : List S36} {x p c : Int} {q : S33} (h : metaB l x p c = some q) : ∃ f ∈ l, f.f2 = q ∧ metaT x p c f = true := by
  unfold metaB at h
  cases e : l.find? (metaT x p c) with
  | none => rw [e] at h; cases h
  | some f =>
    rw [e] at h
    injection h with h
    exact ⟨f, List.mem_of_find?_eq_some e, h, List.find?_some e⟩
def goB (l : List S36) (x c : Int) : Nat → Int → ByteArray → Int → Option (ByteArray × Int)
  | 0, _, t, s => some (t, s)
  | d + 1, p, t, s => match metaB l x p c with
    | none => none
    | some q => goB l x c d (p + 1) (t ++ q.f5) (mn s q.f1)
def rrT (t : ByteArray) : List S45 × Bool := rrB t (t.size + 1) 0 []
def txB (l : List S36) (x : Int) : Int × Int × List S45 × Bool := match metaB l x 0 0 with
  | none => (0, 0, [], false)
  | some q => match goB l x q.f4 (q.f4 - 1).toNat 1 q.f5 q.f1 with
    | none => (0, 0, [], false)
    | some (t, s) => (x, s, (rrT t).1, (rrT t).2)
/-- The texts of all pages whose part is below p. -/
def belowN (l : List S36) (p : Int) : Nat := ((l.filter fun f => decide (f.f2.f3 < p)).map fun f => f.f2.f5.size).sum
def sizesN (l : List S36) : Nat := (l.map fun f => f.f2.f5.size).sum
theorem below_cons (f : S36) (l : List S36) (p : Int) : belowN (f :: l) p = (if f.f2.f3 < p then f.f2.f5.size else 0) + belowN l p := by
  unfold belowN
  rw [List.filter_cons]
  by_cases h : f.f2.f3 < p
  · rw [if_pos (decide_eq_true h), if_pos h]; rfl
  · rw [if_neg (by rw [decide_eq_false h]; decide), if_neg h, Nat.zero_add]
theorem below_le (l : List S36) (p : Int) : belowN l p ≤ sizesN l := by
  induction l with
  | nil => exact Nat.le_refl _
  | cons f l ih =>
    rw [below_cons]
    have e : sizesN (f :: l) = f.f2.f5.size + sizesN l := rfl
    rw [e]
    split <;> omega
theorem below_step {l : List S36} {p : Int} {f : S36} (hf : f ∈ l) (hp : f.f2.f3 = p) : belowN l p + f.f2.f5.size ≤ belowN l (p + 1) := by
  induction l with
  | nil => cases hf
  | cons g l ih =>
    rw [below_cons, below_cons]
    have mono : belowN l p ≤ belowN l (p + 1) := by
      clear ih hf
      induction l with
      | nil => exact Nat.le_refl _
      | cons h l ih =>
        rw [below_cons, below_cons]
        by_cases h1 : h.f2.f3 < p
        · rw [if_pos h1, if_pos (by omega)]; omega
        · rw [if_neg h1]; omega
    rcases List.mem_cons.1 hf with rfl | hf
    · rw [if_neg (by omega), if_pos (by omega)]; omega
    · have h2 := ih hf
      by_cases h1 : g.f2.f3 < p
      · rw [if_pos h1, if_pos (by omega)]; omega
      · rw [if_neg h1]; omega
theorem iGathered_ev (l : List S36) (x : Int) (hl : l.length ≤ 9223372036854775807) (hs : sizesN l ≤ 1048576) (hc : ∀ f ∈ l, f.f2.f4 ≤ 9223372036854775807) : Ev (fun k => impl_gathered.f k l x) (txB l x) := by
  unfold impl_gathered.f txB
  refine ev_bind (iMeta_ev l x 0 0 hl) ?_
  cases e : metaB l x 0 0 with
  | none => exact Ev.now _
  | some q =>
    obtain ⟨f, hf, rfl, ht⟩ := meta_mem e
    unfold metaT at ht
    simp only [Bool.and_eq_true, decide_eq_true_eq] at ht
    show Ev (fun k => if true = true then impl_gathered.l0 k l x f.f2.f5 f.f2.f1 1 f.f2.f0 f.f2.f1 f.f2.f2 f.f2.f3 f.f2.f4 f.f2.f5 else _) _
    simp only [if_true]
    have main : ∀ (d : Nat) (p : Int) (t : ByteArray) (s : Int), 1 ≤ p → p + d ≤ 9223372036854775807 → (p + d = f.f2.f4 ∨ d = 0 ∧ f.f2.f4 ≤ p) → t.size ≤ belowN l p → Ev (fun k => impl_gathered.l0 k l x t s p f.f2.f0 f.f2.f1 f.f2.f2 f.f2.f3 f.f2.f4 f.f2.f5) (match goB l x f.f2.f4 d p t s with | none => (0, 0, [], false) | some (t, s) => (x, s, (rrT t).1, (rrT t).2)) := by
      intro d
      induction d with
      | zero =>
        intro p t s h1 h2 h3 h4
        have hb := below_le l p
        unfold goB
        refine Ev.step (f := fun k => (impl_ReadRecs.f k t).bind fun bt451 => some (x, s, bt451.1, bt451.2)) (fun k => by simp only [impl_gathered.l0]; rw [if_neg (by omega)]) (ev_bind (iReadRecs_ev t (by omega)) (Ev.now _))
      | succ d ih =>
        intro p t s h1 h2 h3 h4
        have hp : p < f.f2.f4 := by omega
        unfold goB
        refine Ev.step (f := fun k => (impl_metaOf.f k l x p f.f2.f4).bind fun bt443 => if bt443.2.2.2.2.2.2 = true then (if t.size + bt443.2.2.2.2.2.1.size ≤ 9223372036854775807 then impl_gathered.l0 k l x (t ++ bt443.2.2.2.2.2.1) (mn s bt443.2.1) (p + 1) f.f2.f0 f.f2.f1 f.f2.f2 f.f2.f3 f.f2.f4 f.f2.f5 else none) else some (0, 0, [], false)) (fun k => by simp only [impl_gathered.l0]; rw [if_pos hp, w64 (x := p + 1) (by omega) (by omega)]) (ev_bind (iMeta_ev l x p f.f2.f4 hl) ?_)
        cases e2 : metaB l x p f.f2.f4 with
        | none => exact Ev.now _
        | some q =>
          obtain ⟨g, hg, rfl, hgt⟩ := meta_mem e2
          unfold metaT at hgt
          simp only [Bool.and_eq_true, decide_eq_true_eq] at hgt
          have hb := below_step hg hgt.2.2.1
          have hb2 := below_le l (p + 1)
          show Ev (fun k => if true = true then (if t.size + g.f2.f5.size ≤ 9223372036854775807 then impl_gathered.l0 k l x (t ++ g.f2.f5) (mn s g.f2.f1) (p + 1) f.f2.f0 f.f2.f1 f.f2.f2 f.f2.f3 f.f2.f4 f.f2.f5 else none) else some (0, 0, [], false)) _
          simp only [if_true, if_pos (show t.size + g.f2.f5.size ≤ 9223372036854775807 by omega)]
          exact ih (p + 1) _ _ (by omega) (by omega) (by omega) (by rw [ByteArray.size_append]; omega)
    have hb := below_step hf ht.2.2.1
    have hcf := hc f hf
    by_cases h1 : f.f2.f4 ≤ 1
    · rw [show (f.f2.f4 - 1).toNat = 0 by omega]
      refine main 0 1 f.f2.f5 f.f2.f1 (by omega) (by omega) (.inr ⟨rfl, h1⟩) ?_
      have : belowN l 0 + f.f2.f5.size ≤ belowN l 1 := hb
      omega
    · refine main (f.f2.f4 - 1).toNat 1 f.f2.f5 f.f2.f1 (by omega) (by omega) (.inl (by omega)) ?_
      have : belowN l 0 + f.f2.f5.size ≤ belowN l 1 := hb
      omega
def numF (s : List Int) (f : S36) : List Int := if f.f2.f0 = 2 ∧ ¬ f.f2.f2 ∈ s then s ++ [f.f2.f2] else s
def numsB (l : List S36) : List Int := l.foldl numF []
def sortB (l : List Int) : List Int := l.mergeSort fun x y => decide (x ≤ y)
def outF (l : List S36) (n : Int) : List S40 := if (txB l n).2.2.2 = true then [⟨(txB l n).1, (txB l n).2.1, (txB l n).2.2.1⟩] else []
def gatherB (l : List S36) : List S40 := (sortB (numsB l)).flatMap (outF l)
theorem iGather_ev (l : List S36) (hl : l.length ≤ 1048576) (hs : sizesN l ≤ 1048576) (hc : ∀ f ∈ l, f.f2.f4 ≤ 9223372036854775807) : Ev (fun k => impl_Gather.f k l) (gatherB l) := by
  unfold impl_Gather.f gatherB
  have two : ∀ (L : List Int), L.length ≤ 1048576 → ∀ (d i : Nat) (acc : List S40), i + d = L.length → acc.length ≤ i → Ev (fun k => impl_Gather.l1 k l acc L (L.length : Int) (i : Int)) (acc ++ (L.drop i).flatMap (outF l)) := by
    intro L hL d
    induction d with
    | zero =>
      intro i acc hi ha
      rw [List.drop_eq_nil_of_le (by omega)]
      exact ev_some fun k => by simp only [impl_Gather.l1]; rw [if_neg (by omega)]; simp
    | succ d ih =>
      intro i acc hi ha
      have hil : i < L.length := by omega
      rw [dropG 0 hil, List.flatMap_cons]
      refine Ev.step (f := fun k => (impl_gathered.f k l (L.getD i 0)).bind fun bt463 => if bt463.2.2.2 = true then impl_Gather.l1 k l (acc ++ [(⟨bt463.1, bt463.2.1, bt463.2.2.1⟩ : S40)]) L (L.length : Int) ((i + 1 : Nat) : Int) else impl_Gather.l1 k l acc L (L.length : Int) ((i + 1 : Nat) : Int)) (fun k => ?_) (ev_bind (iGathered_ev l (L.getD i 0) (by omega) hs hc) ?_)
      · simp only [impl_Gather.l1]
        rw [if_pos (by omega), if_pos (by omega), if_pos (by omega), show rd L (i : Int) = L.getD i 0 from rfl, wsucc (n := L.length) hil (by omega)]
        simp only [if_pos (show acc.length < 3518437208883 by omega)]
      · unfold outF
        by_cases h : (txB l (L.getD i 0)).2.2.2 = true
        · simp only [if_pos h]
          have := ih (i + 1) (acc ++ [(⟨(txB l (L.getD i 0)).1, (txB l (L.getD i 0)).2.1, (txB l (L.getD i 0)).2.2.1⟩ : S40)]) (by omega) (by simp; omega)
          rw [List.append_assoc] at this
          exact this
        · simp only [if_neg h]
          exact ih (i + 1) acc (by omega) (by omega)
  have one : ∀ (d i : Nat) (s : List Int), i + d = l.length → s.length ≤ i → Ev (fun k => impl_Gather.l0 k l s l (l.length : Int) (i : Int)) ((sortB ((l.drop i).foldl numF s)).flatMap (outF l)) := by
    intro d
    induction d with
    | zero =>
      intro i s hi ha
      rw [List.drop_eq_nil_of_le (by omega), List.foldl_nil]
      have hlen : (sortB s).length = s.length := List.length_mergeSort s
      have h2 := two (sortB s) (by omega) (sortB s).length 0 [] (by omega) (by simp)
      rw [List.drop_zero, List.nil_append, hlen] at h2
      refine Ev.step (f := fun k => (sort_Ints.f k s).bind fun t461 => impl_Gather.l1 k l [] t461 (s.length : Int) 0) (fun k => by simp only [impl_Gather.l0]; rw [if_neg (by omega)]) (ev_bind (ev_ext (f := fun _ => some (sortB s)) (fun _ => if_pos (by omega)) (Ev.now _)) h2)
    | succ d ih =>
      intro i s hi ha
      have hil : i < l.length := by omega
      rw [dropG z36 hil, List.foldl_cons]
      unfold numF
      by_cases h : (l.getD i z36).f2.f0 = 2
      · refine Ev.step (f := fun k => (impl_hasInt.f k s (l.getD i z36).f2.f2).bind fun t457 => if t457 = true then impl_Gather.l0 k l s l (l.length : Int) ((i + 1 : Nat) : Int) else impl_Gather.l0 k l (s ++ [(l.getD i z36).f2.f2]) l (l.length : Int) ((i + 1 : Nat) : Int)) (fun k => ?_) (ev_bind (hasG_ev s _ (by omega)) ?_)
        · simp only [impl_Gather.l0]
          rw [if_pos (by omega), if_pos (by omega), if_pos (by omega), rdIF_nat, if_pos h, wsucc (n := l.length) hil (by omega)]
          simp only [if_pos (show s.length < 17592186044416 by omega)]
        · by_cases h2 : (l.getD i z36).f2.f2 ∈ s
          · rw [if_neg (fun g => g.2 h2), decide_eq_true h2]
            simp only [if_true]
            exact ih (i + 1) s (by omega) (by omega)
          · rw [if_pos ⟨h, h2⟩, decide_eq_false h2]
            simp only [Bool.false_eq_true, if_false]
            exact ih (i + 1) _ (by omega) (by simp; omega)
      · rw [if_neg (fun g => h g.1)]
        refine Ev.step (fun k => ?_) (ih (i + 1) s (by omega) (by omega))
        simp only [impl_Gather.l0]
        rw [if_pos (by omega), if_pos (by omega), if_pos (by omega), rdIF_nat, if_neg h, wsucc (n := l.length) hil (by omega)]
  have h := one l.length 0 [] (by omega) (by simp)
  rw [List.drop_zero] at h
  exact h
end Go.Proofs.Ytodokejcmbjpbaa.Pu

namespace Go.Proofs.Ytodokejcmbjpbaa.PK
open Go.RowKit Go.Proofs.YtodokejcmbjpbaaW.PrintWords Go.Proofs.YtodokejcmbjpbaaW.PrintLast Go.Proofs.YtodokejcmbjpbaaW.PrintMore
attribute [local go_sem] max2_int min2_int max_two min_two max_three min_three max_four min_four
def spec_l06Byte.f (a0 : Int) : Option (ByteArray):=some (strOfNums (([(a0) % 256] : List Int)))
set_option maxHeartbeats 8000000 in
set_option maxRecDepth 100000 in
theorem spec_l06Byte.calls (a0 : Int) (r : ByteArray) (w : World) (h : spec_l06Byte.f a0 = some r) :
  Calls Try.prog 52 #[.int .i64 a0] w fun e w'=>e = .returned (.string r) ∧ Below w.heap.size w w':=by
 have HB:=zMk (Below.refl w.heap.size w);have H : (some (strOfNums (([(a0) % 256] : List Int)))) = some r:=h;clear h;obtain ⟨y251,hy251⟩ : ∃ y_ : List Int,y_ = (([(a0) % 256] : List Int)):=⟨_,rfl⟩;replace H : (some (strOfNums y251)) = some r:=by first | (rw [hy251];with_reducible exact H) | (have H2_:=(Option.bind_some _ _).symm.trans H;rw [hy251];with_reducible exact H2_) | (have H2_:=(Option.bind_some _ _).symm.trans H;with_reducible exact H2_) | with_reducible exact H | (rw [hy251];exact H) | exact H
 have Ny251:=zMk hy251;clear hy251;obtain rfl:=Option.some.inj H
 go_enter Try.func52,Try.ntmps52
 go_wp2_with (first | ((with_reducible refine gate_dst (N:=5) rfl ?_);refine Kd.R_lit (Kd.int .u8) _ 5 ?hg (N:=5) ?hd (xs:=([(a0) % 256] : List Int)) (inner:=[.int .u8 ((a0) % 256)]) (ok:=fun _=>True) (okp:=fun _=>True) ?hr ?hp (fun _ hk=>hk) trivial (Below.refl _ _) (Nat.le_refl _) (by simp) ?_;(case hd=>rfl);(case hg=>rfl);(case hr=>first | (go_simp;done) | (go_simp;rfl));(case hp=>exact (Reps.one (show Kd.M (Kd.int .u8) _ _ _ ((a0) % 256) [.int .u8 ((a0) % 256)] from rfl) (Reps.none _ _)));intro v252 w2 ho3 hb hg_ hnew_;clear hg_ hnew_;(first | rw [← Ny251.out] at ho3 | (simp only [Int.reduceToNat] at ho3;rw [← Ny251.out] at ho3));have n0_:=zMk (Kd.R_lower ho3 (below_size (hs HB)));have n1_:=zMk (below_step (hs HB) hb);clear HB;have HO253:=n0_;have HB:=n1_;clear n0_ n1_;clear hb ho3;have hcv4:=own_string (P:=Try.prog) Try.underlying22 Try.underlying5 Try.underlying9 (Kd.own_of_R HO253.out)))
 go_ret
 exact ⟨by first | rfl | (simp [errW_none,errW_some] <;> rfl) | (simp [*,errW_none,errW_some] <;> rfl),hs HB⟩
def spec_RecText.f (k : Nat) (a0_0 : Int) (a0_1 : Int) (a0_2 : Int) (a0_3 : Int) : Option (ByteArray × Bool):=(spec_RecOk.f k a0_0 a0_1 a0_2 a0_3).bind fun t264=>(if t264 = true then ((spec_l06Byte.f (wrap64 ((wrap64 (16 * a0_0)) + a0_1))).bind fun t265=>((spec_l01Var.f k a0_2).bind fun t266=>(if t265.size + t266.size ≤ 9223372036854775807 then ((spec_l01Var.f k a0_3).bind fun t267=>(if t265.size + t266.size + t267.size ≤ 9223372036854775807 then (some ((t265 ++ t266) ++ t267,true)) else (none))) else (none)))) else (some ((⟨#[]⟩ : ByteArray),false)))
theorem spec_RecText.mono : ∀ a0 a1 a2 a3 k,LeO (spec_RecText.f k a0 a1 a2 a3) (spec_RecText.f (k + 1) a0 a1 a2 a3):=by
 intro a0 a1 a2 a3 k;unfold spec_RecText.f
 repeat' first
   | (with_reducible exact spec_RecOk.mono _ _ _ _ _)
   | (with_reducible exact spec_l01Var.mono _ _)
   | (with_reducible exact LeO.refl _)
   | (with_reducible exact LeO.none _)
   | (with_reducible refine LeO.ite ?_ ?_)
   | (with_reducible refine LeO.bind ?_ (fun _=>?_))
   | exact spec_RecOk.mono _ _ _ _ _
   | exact spec_l01Var.mono _ _
   | exact LeO.none _
   | refine LeO.ite ?_ ?_
   | refine LeO.bind ?_ (fun _=>?_)
def spec_RecText.T3 : Bool × List (List Nat × List Nat):=(true,[([],[]),([0],[0]),([1],[1]),([],[]),([3],[3]),([2,4],[2,4]),([5],[5]),([],[]),([7],[7]),([8,6],[8]),([6,9],[6,9]),([],[]),([11],[11]),([12,9],[12]),([10,13],[10,13]),([14,13,0,1,2,3,4,5,6,7,8,9,10,11,12,13,14],[14]),([15,0,1,2,3,4,5,6,7,8,9,10,11,12,13,14,15],[])])
def spec_RecText.B3 : List Nat:=[0,1,3,0,8,31,63,0,128,511,1023,0,2048,7167,16383,32767,65535]
theorem spec_RecText.tab3 : rtab .any (opsOf Try.f33 3) = spec_RecText.T3:=by kernel_rfl
theorem spec_RecText.bits3 : waitsOk spec_RecText.T3.2 spec_RecText.B3 = true:=by kernel_rfl
set_option maxHeartbeats 8000000 in
set_option maxRecDepth 100000 in
theorem spec_RecText.calls (k : Nat) (a0_0 : Int) (a0_1 : Int) (a0_2 : Int) (a0_3 : Int) (r1 : ByteArray) (r2 : Bool) (w : World) (h : spec_RecText.f k a0_0 a0_1 a0_2 a0_3 = some (r1,r2)) :
  Calls Try.prog 33 #[.agg #[.int .i64 a0_0,.int .i64 a0_1,.int .i64 a0_2,.int .i64 a0_3]] w fun e w'=>e = .returned (.tuple #[.string r1,.bool r2]) ∧ Below w.heap.size w w':=by
 have hu45:=Try.underlying45;have HB:=zMk (Below.refl w.heap.size w);have H : ((spec_RecOk.f k a0_0 a0_1 a0_2 a0_3).bind fun t264=>(if t264 = true then ((spec_l06Byte.f (wrap64 ((wrap64 (16 * a0_0)) + a0_1))).bind fun t265=>((spec_l01Var.f k a0_2).bind fun t266=>(if t265.size + t266.size ≤ 9223372036854775807 then ((spec_l01Var.f k a0_3).bind fun t267=>(if t265.size + t266.size + t267.size ≤ 9223372036854775807 then (some ((t265 ++ t266) ++ t267,true)) else (none))) else (none)))) else (some ((⟨#[]⟩ : ByteArray),false)))) = some (r1,r2):=h;clear h;replace H:=Option.bind_eq_some_iff.mp H;obtain ⟨t264,A20,H⟩:=H;replace H : (if t264 = true then ((spec_l06Byte.f (wrap64 ((wrap64 (16 * a0_0)) + a0_1))).bind fun t265=>((spec_l01Var.f k a0_2).bind fun t266=>(if t265.size + t266.size ≤ 9223372036854775807 then ((spec_l01Var.f k a0_3).bind fun t267=>(if t265.size + t266.size + t267.size ≤ 9223372036854775807 then (some ((t265 ++ t266) ++ t267,true)) else (none))) else (none)))) else (some ((⟨#[]⟩ : ByteArray),false))) = some (r1,r2):=H;have A2:=zMk A20;clear A20
 by_cases c3 : t264 = true
 ·subst c3;have H1 : ((spec_l06Byte.f (wrap64 ((wrap64 (16 * a0_0)) + a0_1))).bind fun t265=>((spec_l01Var.f k a0_2).bind fun t266=>(if t265.size + t266.size ≤ 9223372036854775807 then ((spec_l01Var.f k a0_3).bind fun t267=>(if t265.size + t266.size + t267.size ≤ 9223372036854775807 then (some ((t265 ++ t266) ++ t267,true)) else (none))) else (none)))) = some (r1,r2):=by rw [if_pos rfl] at H;exact H
  clear H;have H:=H1;clear H1;replace H:=Option.bind_eq_some_iff.mp H;obtain ⟨t265,A40,H⟩:=H;replace H : ((spec_l01Var.f k a0_2).bind fun t266=>(if t265.size + t266.size ≤ 9223372036854775807 then ((spec_l01Var.f k a0_3).bind fun t267=>(if t265.size + t266.size + t267.size ≤ 9223372036854775807 then (some ((t265 ++ t266) ++ t267,true)) else (none))) else (none))) = some (r1,r2):=H;have A4:=zMk A40;clear A40;replace H:=Option.bind_eq_some_iff.mp H;obtain ⟨t266,A50,H⟩:=H;replace H : (if t265.size + t266.size ≤ 9223372036854775807 then ((spec_l01Var.f k a0_3).bind fun t267=>(if t265.size + t266.size + t267.size ≤ 9223372036854775807 then (some ((t265 ++ t266) ++ t267,true)) else (none))) else (none)) = some (r1,r2):=H;have A5:=zMk A50;clear A50
  by_cases c6 : t265.size + t266.size ≤ 9223372036854775807
  ·rw [if_pos c6] at H;have c6b0:=eq_true c6;have c6b1 : decide (t265.size + t266.size ≤ 9223372036854775807) = true:=decide_eq_true c6
   try have c6b2 : (9223372036854775807 < t265.size + t266.size) = False:=eq_false (Nat.not_lt.2 c6)
   replace H:=Option.bind_eq_some_iff.mp H;obtain ⟨t267,A70,H⟩:=H;replace H : (if t265.size + t266.size + t267.size ≤ 9223372036854775807 then (some ((t265 ++ t266) ++ t267,true)) else (none)) = some (r1,r2):=H;have A7:=zMk A70;clear A70
   by_cases c8 : t265.size + t266.size + t267.size ≤ 9223372036854775807
   ·rw [if_pos c8] at H;have c8b0:=eq_true c8;have c8b1 : decide (t265.size + t266.size + t267.size ≤ 9223372036854775807) = true:=decide_eq_true c8
    try have c8b2 : (9223372036854775807 < t265.size + t266.size + t267.size) = False:=eq_false (Nat.not_lt.2 c8)
    simp only [Option.some.injEq,Prod.mk.injEq] at H;obtain ⟨rfl,rfl⟩:=H
    go_enter Try.func33,Try.ntmps33
    try go_wp2_with (first | ((with_reducible refine gate_dst (N:=1) rfl ?_);refine box_event ?hg (N:=1) ?hd (cs:=#[.int .i64 a0_0,.int .i64 a0_1,.int .i64 a0_2,.int .i64 a0_3]) (t:=45) ?hr ?_;(case hd=>rfl);(case hg=>rfl);(case hr=>first | (go_simp;done) | (go_simp;rfl));intro gb263 hg w9 hbox hb;have n0_:=zMk (below_step (hs HB) hb);have n1_:=zMk (hbox);have n2_:=zMk ((by rw [hg];exact (below_size (hs HB)) : w.heap.size ≤ gb263));have n3_:=zMk ((by rw [hg];exact (below_size (hs HB)) : w.heap.size ≤ gb263));clear HB;have HB:=n0_;have BK263:=n1_;have GW263:=n2_;have GE263:=n3_;clear n0_ n1_ n2_ n3_;clear hb hbox hg;have hcz10_0 : w9.cell? ⟨gb263,0,none⟩ = some (.int .i64 a0_0):=(zCl BK263.out 0).trans rfl;have hcz10_1 : w9.cell? ⟨gb263,1,none⟩ = some (.int .i64 a0_1):=(zCl BK263.out 1).trans rfl;have hcz10_2 : w9.cell? ⟨gb263,2,none⟩ = some (.int .i64 a0_2):=(zCl BK263.out 2).trans rfl;have hcz10_3 : w9.cell? ⟨gb263,3,none⟩ = some (.int .i64 a0_3):=(zCl BK263.out 3).trans rfl;have hfz10_0:=zFr BK263.out 0;have hfz10_1:=zFr BK263.out 1;have hfz10_2:=zFr BK263.out 2;have hfz10_3:=zFr BK263.out 3) | ((with_reducible refine gate_callee (f:=51) rfl ?_);refine goesL_ (some 5) rfl rfl Try.func51 (by kernel_rfl) rfl #[.agg #[.int .i64 a0_0,.int .i64 a0_1,.int .i64 a0_2,.int .i64 a0_3]] rfl (by (try simp only [List.map_toArray,List.map_cons,List.map_nil]);first | done | rfl | (simp only [List.length_drop,List.length_take];rfl)) ?_;(with_reducible refine (spec_RecOk.calls k a0_0 a0_1 a0_2 a0_3 true _ A2.out).mono ?_);rintro e w11 ⟨rfl,hb⟩;refine ⟨_,rfl,?_⟩;have n0_:=zMk (blk_below (g:=gb263) (o:=.cells #[.int .i64 a0_0,.int .i64 a0_1,.int .i64 a0_2,.int .i64 a0_3] 45 (0,0)) (bs BK263) hb);have n1_:=zMk (below_step (hs1 HB GE263) hb);clear BK263;clear HB;have BK263:=n0_;have HB:=n1_;clear n0_ n1_;(try clear hb);(try clear hb2);(try clear hk);(try clear hi)))
    have n0_:=zMk (blk_drew BK263.out);have n1_:=zMk (below_drew1 HB.out);clear BK263;clear HB;have BK263:=n0_;have HB:=n1_;clear n0_ n1_;refine start_ (n:=17) (S:=fun w'=>w'.cell? ⟨gb263,0,none⟩ = some (.int .i64 a0_0) ∧ w'.cell? ⟨gb263,1,none⟩ = some (.int .i64 a0_1) ∧ w'.cell? ⟨gb263,2,none⟩ = some (.int .i64 a0_2) ∧ w'.cell? ⟨gb263,3,none⟩ = some (.int .i64 a0_3)) (ds:=[]) #[false,false,false,false,false,false,false,false,false,false,false,false,false,false,false,false,false] (by kernel_rfl) rfl rfl ⟨(zCl BK263.out 0).trans rfl,(zCl BK263.out 1).trans rfl,(zCl BK263.out 2).trans rfl,(zCl BK263.out 3).trans rfl⟩ (fun hHeld=>?_);refine with_tabW spec_RecText.tab3 spec_RecText.bits3 (fun HT_ HW_=>?_);generalize w11.drew = w12 at BK263 HB hHeld ⊢;refine pure_ (i:=0) (N:=some 7) (v:=?_) (a':=?_) #[true,false,false,false,false,false,false,false,false,false,false,false,false,false,false,false,false] rfl rfl (any_of HT_.out (by kernel_rfl)) (fun _ _ _ h=>h) (Or.inl ⟨by rfl,?_⟩) ?_ ?_;rotate_left
    ·intro w';go_simp;with_reducible rfl
    rotate_left
    ·simp only [Act.put,zS1,zS2,zS3,i64_w,i32_w];rfl
    refine pure_ (i:=3) (N:=some 10) (v:=?_) (a':=?_) #[true,false,false,true,false,false,false,false,false,false,false,false,false,false,false,false,false] rfl rfl (any_of HT_.out (by kernel_rfl)) (fun _ _ _ h=>h) (Or.inl ⟨by rfl,?_⟩) ?_ ?_;rotate_left
    ·intro w';go_simp;with_reducible rfl
    rotate_left
    ·simp only [Act.put,zS1,zS2,zS3,i64_w,i32_w];rfl
    refine pure_ (i:=7) (N:=some 14) (v:=?_) (a':=?_) #[true,false,false,true,false,false,false,true,false,false,false,false,false,false,false,false,false] rfl rfl (any_of HT_.out (by kernel_rfl)) (fun _ _ _ h=>h) (Or.inl ⟨by rfl,?_⟩) ?_ ?_;rotate_left
    ·intro w';go_simp;with_reducible rfl
    rotate_left
    ·simp only [Act.put,zS1,zS2,zS3,i64_w,i32_w];rfl
    refine pure_ (i:=11) (N:=some 18) (v:=?_) (a':=?_) #[true,false,false,true,false,false,false,true,false,false,false,true,false,false,false,false,false] rfl rfl (any_of HT_.out (by kernel_rfl)) (fun _ _ _ h=>h) (Or.inl ⟨by rfl,?_⟩) ?_ ?_;rotate_left
    ·intro w';go_simp;with_reducible rfl
    rotate_left
    ·simp only [Act.put,zS1,zS2,zS3,i64_w,i32_w];rfl
    refine take_ (i:=1) (N:=some 8) (v:=?_) (a':=?_) #[true,true,false,true,false,false,false,true,false,false,false,true,false,false,false,false,false] rfl rfl (take_ofW HT_.out HW_.out (by kernel_rfl)) (fun _ _ _ h=>h) (Or.inl ⟨by rfl,?_⟩) hHeld ?_ ?_;rotate_left
    ·rintro w' ⟨s0,s1,s2,s3⟩;go_simp;with_reducible rfl
    rotate_left
    ·simp only [Act.put,zS1,zS2,zS3,i64_w,i32_w];rfl
    refine pure_ (i:=2) (N:=some 9) (v:=?_) (a':=?_) #[true,true,true,true,false,false,false,true,false,false,false,true,false,false,false,false,false] rfl rfl (any_of HT_.out (by kernel_rfl)) (fun _ _ _ h=>h) (Or.inl ⟨by rfl,?_⟩) ?_ ?_;rotate_left
    ·intro w';go_simp;with_reducible rfl
    rotate_left
    ·simp only [Act.put,zS1,zS2,zS3,i64_w,i32_w];rfl
    refine take_ (i:=4) (N:=some 11) (v:=?_) (a':=?_) #[true,true,true,true,true,false,false,true,false,false,false,true,false,false,false,false,false] rfl rfl (take_ofW HT_.out HW_.out (by kernel_rfl)) (fun _ _ _ h=>h) (Or.inl ⟨by rfl,?_⟩) hHeld ?_ ?_;rotate_left
    ·rintro w' ⟨s0,s1,s2,s3⟩;go_simp;with_reducible rfl
    rotate_left
    ·simp only [Act.put,zS1,zS2,zS3,i64_w,i32_w];rfl
    refine pure_ (i:=5) (N:=some 12) (v:=?_) (a':=?_) #[true,true,true,true,true,true,false,true,false,false,false,true,false,false,false,false,false] rfl rfl (any_of HT_.out (by kernel_rfl)) (fun _ _ _ h=>h) (Or.inl ⟨by rfl,?_⟩) ?_ ?_;rotate_left
    ·intro w';go_simp;with_reducible rfl
    rotate_left
    ·simp only [Act.put,zS1,zS2,zS3,i64_w,i32_w];rfl
    refine take_ (i:=8) (N:=some 15) (v:=?_) (a':=?_) #[true,true,true,true,true,true,false,true,true,false,false,true,false,false,false,false,false] rfl rfl (take_ofW HT_.out HW_.out (by kernel_rfl)) (fun _ _ _ h=>h) (Or.inl ⟨by rfl,?_⟩) hHeld ?_ ?_;rotate_left
    ·rintro w' ⟨s0,s1,s2,s3⟩;go_simp;with_reducible rfl
    rotate_left
    ·simp only [Act.put,zS1,zS2,zS3,i64_w,i32_w];rfl
    refine take_ (i:=12) (N:=some 19) (v:=?_) (a':=?_) #[true,true,true,true,true,true,false,true,true,false,false,true,true,false,false,false,false] rfl rfl (take_ofW HT_.out HW_.out (by kernel_rfl)) (fun _ _ _ h=>h) (Or.inl ⟨by rfl,?_⟩) hHeld ?_ ?_;rotate_left
    ·rintro w' ⟨s0,s1,s2,s3⟩;go_simp;with_reducible rfl
    rotate_left
    ·simp only [Act.put,zS1,zS2,zS3,i64_w,i32_w];rfl
    refine one_ (i:=6) (N:=some 13) #[true,true,true,true,true,true,true,true,true,false,false,true,true,false,false,false,false] rfl rfl (one_of HT_.out (by kernel_rfl)) (by decide) (fun K hK=>?_);refine goes_ Try.func52 (by kernel_rfl) rfl #[.int .i64 (wrap64 ((wrap64 (16 * a0_0)) + a0_1))] (by rfl) rfl rfl (by (try simp only [List.map_toArray,List.map_cons,List.map_nil]);first | done | rfl | (simp only [List.length_drop,List.length_take];rfl)) ?_;with_reducible refine (spec_l06Byte.calls (wrap64 ((wrap64 (16 * a0_0)) + a0_1)) t265 _ A4.out).mono ?_
    rintro e w13 ⟨rfl,hb⟩;refine ⟨_,rfl,?_⟩;have n0_:=zMk (blk_below (g:=gb263) (o:=.cells #[.int .i64 a0_0,.int .i64 a0_1,.int .i64 a0_2,.int .i64 a0_3] 45 (0,0)) (bs BK263) hb);have n1_:=zMk (below_step (hs1 HB GE263) hb);clear BK263;clear HB;have BK263:=n0_;have HB:=n1_;clear n0_ n1_
    (try clear hb)
    (try clear hb2)
    (try clear hk)
    (try clear hi)
    refine hK.out _ _ ⟨(zCl BK263.out 0).trans rfl,(zCl BK263.out 1).trans rfl,(zCl BK263.out 2).trans rfl,(zCl BK263.out 3).trans rfl⟩ (fun hHeld=>?_);clear hK K;refine norm_ (a':=?_) ?_ ?_;rotate_left
    ·show Act.put _ (some 13) _ = _;simp only [Act.put,zS1,zS2,zS3,i64_w,i32_w];rfl
    refine one_ (i:=9) (N:=some 16) #[true,true,true,true,true,true,true,true,true,true,false,true,true,false,false,false,false] rfl rfl (one_of HT_.out (by kernel_rfl)) (by decide) (fun K hK=>?_);refine goes_ Try.func53 (by kernel_rfl) rfl #[.int .i64 a0_2] (by rfl) rfl rfl (by (try simp only [List.map_toArray,List.map_cons,List.map_nil]);first | done | rfl | (simp only [List.length_drop,List.length_take];rfl)) ?_;with_reducible refine (spec_l01Var.calls k a0_2 t266 _ A5.out).mono ?_
    rintro e w14 ⟨rfl,hb⟩;refine ⟨_,rfl,?_⟩;have n0_:=zMk (blk_below (g:=gb263) (o:=.cells #[.int .i64 a0_0,.int .i64 a0_1,.int .i64 a0_2,.int .i64 a0_3] 45 (0,0)) (bs BK263) hb);have n1_:=zMk (below_step (hs1 HB GE263) hb);clear BK263;clear HB;have BK263:=n0_;have HB:=n1_;clear n0_ n1_
    (try clear hb)
    (try clear hb2)
    (try clear hk)
    (try clear hi)
    refine hK.out _ _ ⟨(zCl BK263.out 0).trans rfl,(zCl BK263.out 1).trans rfl,(zCl BK263.out 2).trans rfl,(zCl BK263.out 3).trans rfl⟩ (fun hHeld=>?_);clear hK K;refine norm_ (a':=?_) ?_ ?_;rotate_left
    ·show Act.put _ (some 16) _ = _;simp only [Act.put,zS1,zS2,zS3,i64_w,i32_w];rfl
    refine pure_ (i:=10) (N:=some 17) (v:=?_) (a':=?_) #[true,true,true,true,true,true,true,true,true,true,true,true,true,false,false,false,false] rfl rfl (any_of HT_.out (by kernel_rfl)) (fun _ _ _ h=>h) (Or.inl ⟨by rfl,?_⟩) ?_ ?_;rotate_left
    ·intro w';go_simp;with_reducible rfl
    rotate_left
    ·simp only [Act.put,zS1,zS2,zS3,i64_w,i32_w];rfl
    refine one_ (i:=13) (N:=some 20) #[true,true,true,true,true,true,true,true,true,true,true,true,true,true,false,false,false] rfl rfl (one_of HT_.out (by kernel_rfl)) (by decide) (fun K hK=>?_);refine goes_ Try.func53 (by kernel_rfl) rfl #[.int .i64 a0_3] (by rfl) rfl rfl (by (try simp only [List.map_toArray,List.map_cons,List.map_nil]);first | done | rfl | (simp only [List.length_drop,List.length_take];rfl)) ?_;with_reducible refine (spec_l01Var.calls k a0_3 t267 _ A7.out).mono ?_
    rintro e w15 ⟨rfl,hb⟩;refine ⟨_,rfl,?_⟩;have n0_:=zMk (blk_below (g:=gb263) (o:=.cells #[.int .i64 a0_0,.int .i64 a0_1,.int .i64 a0_2,.int .i64 a0_3] 45 (0,0)) (bs BK263) hb);have n1_:=zMk (below_step (hs1 HB GE263) hb);clear BK263;clear HB;have BK263:=n0_;have HB:=n1_;clear n0_ n1_
    (try clear hb)
    (try clear hb2)
    (try clear hk)
    (try clear hi)
    refine hK.out _ _ ⟨(zCl BK263.out 0).trans rfl,(zCl BK263.out 1).trans rfl,(zCl BK263.out 2).trans rfl,(zCl BK263.out 3).trans rfl⟩ (fun hHeld=>?_);clear hK K;refine norm_ (a':=?_) ?_ ?_;rotate_left
    ·show Act.put _ (some 20) _ = _;simp only [Act.put,zS1,zS2,zS3,i64_w,i32_w];rfl
    refine pure_ (i:=14) (N:=some 21) (v:=?_) (a':=?_) #[true,true,true,true,true,true,true,true,true,true,true,true,true,true,true,false,false] rfl rfl (any_of HT_.out (by kernel_rfl)) (fun _ _ _ h=>h) (Or.inl ⟨by rfl,?_⟩) ?_ ?_;rotate_left
    ·intro w';go_simp;with_reducible rfl
    rotate_left
    ·simp only [Act.put,zS1,zS2,zS3,i64_w,i32_w];rfl
    refine pure_ (i:=15) (N:=some 2) (v:=?_) (a':=?_) #[true,true,true,true,true,true,true,true,true,true,true,true,true,true,true,true,false] rfl rfl (any_of HT_.out (by kernel_rfl)) (fun _ _ _ h=>h) (Or.inl ⟨by rfl,?_⟩) ?_ ?_;rotate_left
    ·intro w';go_simp;with_reducible rfl
    rotate_left
    ·simp only [Act.put,zS1,zS2,zS3,i64_w,i32_w];rfl
    refine pure_ (i:=16) (N:=some 3) (v:=?_) (a':=?_) #[true,true,true,true,true,true,true,true,true,true,true,true,true,true,true,true,true] rfl rfl (any_of HT_.out (by kernel_rfl)) (fun _ _ _ h=>h) (Or.inl ⟨by rfl,?_⟩) ?_ ?_;rotate_left
    ·intro w';go_simp;with_reducible rfl
    rotate_left
    ·simp only [Act.put,zS1,zS2,zS3,i64_w,i32_w];rfl
    refine done_ (done_of HT_.out (by kernel_rfl)) ?_
    try go_wp2
    go_ret2
    exact ⟨by first | rfl | (simp [errW_none,errW_some] <;> rfl) | (simp [*,errW_none,errW_some] <;> rfl),hs1 HB GE263⟩
   rw [if_neg c8] at H;exact absurd H (by simp)
  rw [if_neg c6] at H;exact absurd H (by simp)
 replace c3:=Bool.eq_false_iff.mpr c3;subst c3;have H1 : (some ((⟨#[]⟩ : ByteArray),false)) = some (r1,r2):=by rw [if_neg (show ¬ (false = true) by decide)] at H;exact H
 clear H;have H:=H1;clear H1;simp only [Option.some.injEq,Prod.mk.injEq] at H;obtain ⟨rfl,rfl⟩:=H
 go_enter Try.func33,Try.ntmps33
 go_wp2_with (first | ((with_reducible refine gate_dst (N:=1) rfl ?_);refine box_event ?hg (N:=1) ?hd (cs:=#[.int .i64 a0_0,.int .i64 a0_1,.int .i64 a0_2,.int .i64 a0_3]) (t:=45) ?hr ?_;(case hd=>rfl);(case hg=>rfl);(case hr=>first | (go_simp;done) | (go_simp;rfl));intro gb263 hg w16 hbox hb;have n0_:=zMk (below_step (hs HB) hb);have n1_:=zMk (hbox);have n2_:=zMk ((by rw [hg];exact (below_size (hs HB)) : w.heap.size ≤ gb263));have n3_:=zMk ((by rw [hg];exact (below_size (hs HB)) : w.heap.size ≤ gb263));clear HB;have HB:=n0_;have BK263:=n1_;have GW263:=n2_;have GE263:=n3_;clear n0_ n1_ n2_ n3_;clear hb hbox hg;have hcz17_0 : w16.cell? ⟨gb263,0,none⟩ = some (.int .i64 a0_0):=(zCl BK263.out 0).trans rfl;have hcz17_1 : w16.cell? ⟨gb263,1,none⟩ = some (.int .i64 a0_1):=(zCl BK263.out 1).trans rfl;have hcz17_2 : w16.cell? ⟨gb263,2,none⟩ = some (.int .i64 a0_2):=(zCl BK263.out 2).trans rfl;have hcz17_3 : w16.cell? ⟨gb263,3,none⟩ = some (.int .i64 a0_3):=(zCl BK263.out 3).trans rfl;have hfz17_0:=zFr BK263.out 0;have hfz17_1:=zFr BK263.out 1;have hfz17_2:=zFr BK263.out 2;have hfz17_3:=zFr BK263.out 3) | ((with_reducible refine gate_callee (f:=51) rfl ?_);refine goesL_ (some 5) rfl rfl Try.func51 (by kernel_rfl) rfl #[.agg #[.int .i64 a0_0,.int .i64 a0_1,.int .i64 a0_2,.int .i64 a0_3]] rfl (by (try simp only [List.map_toArray,List.map_cons,List.map_nil]);first | done | rfl | (simp only [List.length_drop,List.length_take];rfl)) ?_;(with_reducible refine (spec_RecOk.calls k a0_0 a0_1 a0_2 a0_3 false _ A2.out).mono ?_);rintro e w18 ⟨rfl,hb⟩;refine ⟨_,rfl,?_⟩;have n0_:=zMk (blk_below (g:=gb263) (o:=.cells #[.int .i64 a0_0,.int .i64 a0_1,.int .i64 a0_2,.int .i64 a0_3] 45 (0,0)) (bs BK263) hb);have n1_:=zMk (below_step (hs1 HB GE263) hb);clear BK263;clear HB;have BK263:=n0_;have HB:=n1_;clear n0_ n1_;(try clear hb);(try clear hb2);(try clear hk);(try clear hi)))
 go_ret2
 exact ⟨by first | rfl | (simp [errW_none,errW_some] <;> rfl) | (simp [*,errW_none,errW_some] <;> rfl),hs1 HB GE263⟩
end Go.Proofs.Ytodokejcmbjpbaa.PK

/- The bytes of a record; the program's and the reference's RecText tell them. -/
namespace Go.Proofs.Ytodokejcmbjpbaa.Pu
open Go.RowKit Go.Proofs.Ytodokejcmbjpbaa.PK Go.Proofs.YtodokejcmbjpbaaW.PrintWords
def recText (t v a c : Int) : ByteArray := (strOfNums [(16 * t + v) % 256] ++ strOfNums (varL a.toNat)) ++ strOfNums (varL c.toNat)
def recTextR (t v a c : Int) : ByteArray × Bool := if recOk t v a c = true then (recText t v a c, true) else (⟨#[]⟩, false)
theorem iRecText_ev (t v a c : Int) : Ev (fun k => impl_RecText.f k t v a c) (recTextR t v a c) := by
  unfold impl_RecText.f recTextR
  refine ev_bind (iRecOk_ev t v a c) ?_
  by_cases h : recOk t v a c = true
  · obtain ⟨h1, h2, h3, h4, h5, h6, h7, h8⟩ := recOk_range h
    have s1 := varL_len5 (n := a.toNat) (by omega)
    have s2 := varL_len5 (n := c.toNat) (by omega)
    simp only [if_pos h, Option.bind_some]
    refine ev_bind (varOf_ev h5 h6) ?_
    rw [w64 (x := 16 * t) (by omega) (by omega), w64 (x := 16 * t + v) (by omega) (by omega)]
    simp only [strOf_size, List.length_cons, List.length_nil, if_pos (show 0 + 1 + (varL a.toNat).length ≤ 9223372036854775807 by omega)]
    refine ev_bind (varOf_ev h7 h8) ?_
    simp only [strOf_size, if_pos (show 0 + 1 + (varL a.toNat).length + (varL c.toNat).length ≤ 9223372036854775807 by omega)]
    exact Ev.now _
  · simp only [if_neg h]
    exact Ev.now _
theorem sRecText_ev (t v a c : Int) : Ev (fun k => spec_RecText.f k t v a c) (recTextR t v a c) := by
  unfold spec_RecText.f recTextR spec_l06Byte.f
  refine ev_bind (sRecOk_ev t v a c) ?_
  by_cases h : recOk t v a c = true
  · obtain ⟨h1, h2, h3, h4, h5, h6, h7, h8⟩ := recOk_range h
    have s1 := varL_len5 (n := a.toNat) (by omega)
    have s2 := varL_len5 (n := c.toNat) (by omega)
    simp only [if_pos h, Option.bind_some]
    refine ev_bind (l01Var_ev h5 h6) ?_
    rw [w64 (x := 16 * t) (by omega) (by omega), w64 (x := 16 * t + v) (by omega) (by omega)]
    simp only [strOf_size, List.length_cons, List.length_nil, if_pos (show 0 + 1 + (varL a.toNat).length ≤ 9223372036854775807 by omega)]
    refine ev_bind (l01Var_ev h7 h8) ?_
    simp only [strOf_size, if_pos (show 0 + 1 + (varL a.toNat).length + (varL c.toNat).length ≤ 9223372036854775807 by omega)]
    exact Ev.now _
  · simp only [if_neg h]
    exact Ev.now _
end Go.Proofs.Ytodokejcmbjpbaa.Pu

/- Records come back from their bytes; bytes that are records are the bytes of them. -/
namespace Go.Proofs.Ytodokejcmbjpbaa.Pu
open Go.RowKit Go.Proofs.Ytodokejcmbjpbaa.PK Go.Proofs.YtodokejcmbjpbaaW.PrintWords
def varN (n : Nat) : List Nat := (varL n).map Int.toNat
theorem varN_long {n : Nat} (h : n > 127) : varN n = (n % 128 + 128) :: varN (n / 128) := by
  unfold varN; rw [varL_long h]; rfl
theorem varN_short {n : Nat} (h : ¬ n > 127) : varN n = [n] := by
  unfold varN; rw [varL_short h]; rfl
theorem varN_len (n : Nat) : (varN n).length = (varL n).length := List.length_map _
/-- A number that was written is read. -/
theorem rv_var (m : Nat) : ∀ (d k n0 : Nat) (rest : List Nat), (varN m).length ≤ d → n0 + m * 128 ^ k ≤ 1000000000 → (k = 0 ∨ m ≠ 0) → rvL (varN m ++ rest) d k n0 = some (n0 + m * 128 ^ k, k + (varN m).length) := by
  induction m using Nat.strongRecOn with
  | _ m ih =>
    intro d k n0 rest hd hn h0
    by_cases hm : m > 127
    · rw [varN_long hm] at hd ⊢
      cases d with
      | zero => simp at hd
      | succ d =>
        simp only [List.length_cons] at hd
        rw [List.cons_append, rvL_cons, if_pos (by omega), show (m % 128 + 128) % 128 = m % 128 by omega]
        have e : m * 128 ^ k = m % 128 * 128 ^ k + m / 128 * 128 ^ (k + 1) := by
          have h1 : m = m % 128 + 128 * (m / 128) := by omega
          conv => lhs; rw [h1]
          rw [Nat.add_mul, Nat.pow_succ]
          congr 1
          rw [Nat.mul_comm 128, Nat.mul_assoc, Nat.mul_comm 128]
        rw [e] at hn
        rw [ih (m / 128) (by omega) d (k + 1) _ rest (by omega) (by omega) (.inr (by omega)), e]
        simp only [List.length_cons]
        congr 2 <;> omega
    · rw [varN_short hm] at hd ⊢
      cases d with
      | zero => simp at hd
      | succ d =>
        rw [List.cons_append, rvL_cons, if_neg (by omega), show m % 128 = m by omega, if_neg (by omega)]
        rfl
theorem read_var {t : ByteArray} {a n : Nat} {rest : List Nat} (h : (byt t).drop a = varN n ++ rest) (ha : a ≤ t.size) (hn : n ≤ 1000000000) : rvB t (a : Int) = ((n : Int), ((a + (varN n).length : Nat) : Int), true) := by
  unfold rvB
  rw [if_pos (by omega), Int.toNat_natCast, h, rv_var n 5 0 0 rest (by rw [varN_len]; exact (varL_len5 hn).1) (by simpa using hn) (.inl rfl)]
  show (((0 + n * 128 ^ 0 : Nat) : Int), (a : Int) + ((0 + (varN n).length : Nat) : Int), true) = _
  rw [show 0 + n * 128 ^ 0 = n by simp, show (a : Int) + ((0 + (varN n).length : Nat) : Int) = ((a + (varN n).length : Nat) : Int) by omega]
/-- What was read is what is written. -/
theorem rv_back : ∀ (l : List Nat) (d : Nat) (pre : List Nat) {m c : Nat}, rvL l d pre.length (valB pre) = some (m, c) → (∀ b ∈ pre, 128 ≤ b ∧ b < 256) → (∀ b ∈ l, b < 256) → varN m = pre ++ l.take (c - pre.length)
  | l, 0, pre, m, c, h, _, _ => by rw [rvL_zero] at h; cases h
  | [], d + 1, pre, m, c, h, _, _ => by rw [rvL_nil] at h; cases h
  | x :: r, d + 1, pre, m, c, h, hp, hl => by
    rw [rvL_cons, ← val_snoc] at h
    have hx := hl x List.mem_cons_self
    by_cases h1 : x ≥ 128
    · rw [if_pos h1] at h
      have hr := rvL_range _ _ _ _ h
      have h2 := rv_back r d (pre ++ [x]) (m := m) (c := c) (by rw [List.length_append]; exact h) (fun b hb => by
        rcases List.mem_append.1 hb with hb | hb
        · exact hp b hb
        · obtain rfl := List.mem_singleton.1 hb; exact ⟨h1, hx⟩) (fun b hb => hl b (List.mem_cons_of_mem _ hb))
      rw [h2, List.append_assoc, List.length_append, List.length_singleton]
      congr 1
      rw [show c - pre.length = (c - (pre.length + 1)) + 1 by omega, List.take_succ_cons]; rfl
    · rw [if_neg h1] at h
      by_cases h2 : (x = 0 ∧ pre.length > 0) ∨ valB (pre ++ [x]) > 1000000000
      · rw [if_pos h2] at h; cases h
      · rw [if_neg h2] at h
        injection h with h
        injection h with h3 h4
        subst h3; subst h4
        unfold varN
        rw [canon1 pre hp (by omega) (by
          cases pre with
          | nil => exact .inl rfl
          | cons b q => exact .inr fun h0 => h2 (.inl ⟨h0, by simp⟩)), toNat_map, Nat.add_sub_cancel_left, List.take_succ_cons, List.take_zero]
theorem var_back {t : ByteArray} {a : Nat} (ha : a ≤ t.size) (h : (rvB t (a : Int)).2.2 = true) : (byt t).drop a = varN (rvB t (a : Int)).1.toNat ++ (byt t).drop (rvB t (a : Int)).2.1.toNat := by
  unfold rvB at h ⊢
  rw [if_pos (by omega), Int.toNat_natCast] at h
  rw [if_pos (by omega), Int.toNat_natCast]
  cases e : rvL ((byt t).drop a) 5 0 0 with
  | none => rw [e] at h; cases h
  | some z =>
    obtain ⟨m, c⟩ := z
    have h2 := rv_back ((byt t).drop a) 5 [] e (fun b hb => by cases hb) (fun b hb => byt_lt t b (List.mem_of_mem_drop hb))
    show (byt t).drop a = varN ((m : Int)).toNat ++ (byt t).drop ((a : Int) + (c : Int)).toNat
    rw [Int.toNat_natCast, h2, show ((a : Int) + (c : Int)).toNat = a + c by omega, ← List.drop_drop]
    exact (List.take_append_drop c ((byt t).drop a)).symm

def recN (x : S45) : List Nat := (16 * x.f0 + x.f1).toNat :: (varN x.f2.toNat ++ varN x.f3.toNat)
def okR (x : S45) : Bool := recOk x.f0 x.f1 x.f2 x.f3
def recsN (l : List S45) : List Nat := (l.map recN).flatten
theorem byt_rec {x : S45} (h : okR x = true) : byt (recText x.f0 x.f1 x.f2 x.f3) = recN x := by
  obtain ⟨h1, h2, h3, h4, h5, h6, h7, h8⟩ := recOk_range h
  unfold recText recN varN
  rw [byt_app, byt_app, byt_str _ (varL_byte _), byt_str _ (varL_byte _), byt_str _ (fun y hy => by obtain rfl := List.mem_singleton.1 hy; omega), List.append_assoc]
  show ((16 * x.f0 + x.f1) % 256).toNat :: _ = _
  rw [show (16 * x.f0 + x.f1) % 256 = 16 * x.f0 + x.f1 by omega]; rfl
theorem recN_len (x : S45) : (recN x).length = 1 + (varN x.f2.toNat).length + (varN x.f3.toNat).length := by
  unfold recN; simp only [List.length_cons, List.length_append]; omega
theorem rec_read {t : ByteArray} {i : Nat} {x : S45} {rest : List Nat} (h : (byt t).drop i = recN x ++ rest) (hx : okR x = true) (hi : i < t.size) : recMay t i = true ∧ recAt t i = x ∧ recEnd t i = ((i + (recN x).length : Nat) : Int) := by
  obtain ⟨h1, h2, h3, h4, h5, h6, h7, h8⟩ := recOk_range hx
  have hl : ((byt t).drop i).length = t.size - i := by rw [List.length_drop, byt_len]
  have hl2 := congrArg List.length h
  rw [hl, List.length_append, recN_len] at hl2
  have hd := drop_byt hi
  rw [h] at hd
  unfold recN at hd
  rw [List.cons_append] at hd
  injection hd with h9 h10
  rw [List.append_assoc] at h10
  have ra := read_var (t := t) (a := i + 1) (n := x.f2.toNat) h10.symm (by omega) (by omega)
  have h11 : (byt t).drop (i + 1 + (varN x.f2.toNat).length) = varN x.f3.toNat ++ rest := by
    rw [← List.drop_drop, ← h10, List.drop_left]
  have rc := read_var (t := t) (a := i + 1 + (varN x.f2.toNat).length) (n := x.f3.toNat) h11 (by omega) (by omega)
  unfold recMay recAt recEnd
  rw [ra]
  simp only
  rw [rc]
  refine ⟨rfl, ?_, ?_⟩
  · rw [← h9]
    obtain ⟨t0, v0, a0, c0⟩ := x
    simp only at *
    congr 1 <;> omega
  · rw [recN_len]
    show ((_ : Nat) : Int) = ((_ : Nat) : Int)
    omega
theorem trip (t : ByteArray) : ∀ (L : List S45) (d i : Nat) (acc : List S45), (byt t).drop i = recsN L → (∀ x ∈ L, okR x = true) → t.size < i + d → i ≤ t.size → rrB t d i acc = (acc ++ L, true)
  | [], d, i, acc, h, _, hd, hi => by
    have h1 := congrArg List.length h
    rw [List.length_drop, byt_len] at h1
    have h2 : (recsN []).length = 0 := rfl
    rw [h2] at h1
    cases d with
    | zero => omega
    | succ d => unfold rrB; rw [if_neg (by omega), List.append_nil]
  | x :: L, d, i, acc, h, ho, hd, hi => by
    have hx := ho x List.mem_cons_self
    have e : recsN (x :: L) = recN x ++ recsN L := rfl
    rw [e] at h
    have hl := congrArg List.length h
    rw [List.length_drop, byt_len, List.length_append, recN_len] at hl
    obtain ⟨h1, h2, h3⟩ := rec_read h hx (by omega)
    cases d with
    | zero => omega
    | succ d =>
      unfold rrB
      rw [if_pos (by omega), h1, h2, Bool.true_and]
      have hx2 : recOk x.f0 x.f1 x.f2 x.f3 = true := hx
      rw [if_pos hx2, h3, Int.toNat_natCast, trip t L d (i + (recN x).length) (acc ++ [x]) (by rw [← List.drop_drop, h, List.drop_left]) (fun y hy => ho y (List.mem_cons_of_mem _ hy)) (by rw [recN_len]; omega) (by rw [recN_len]; omega), List.append_assoc]
      rfl
theorem back (t : ByteArray) : ∀ (d i : Nat) (acc : List S45), t.size < i + d → i ≤ t.size → (rrB t d i acc).2 = true → ∃ N, (rrB t d i acc).1 = acc ++ N ∧ (∀ x ∈ N, okR x = true) ∧ (byt t).drop i = recsN N
  | 0, i, acc, h1, h2, _ => by omega
  | d + 1, i, acc, h1, h2, h => by
    unfold rrB at h ⊢
    by_cases hi : i < t.size
    · rw [if_pos hi] at h ⊢
      by_cases hc : (recMay t i && recOk (recAt t i).f0 (recAt t i).f1 (recAt t i).f2 (recAt t i).f3) = true
      · rw [if_pos hc] at h ⊢
        rw [Bool.and_eq_true] at hc
        obtain ⟨hm, ho⟩ := hc
        unfold recMay at hm
        rw [Bool.and_eq_true] at hm
        have hx := byt_get_lt t i
        have A := rvB_range t ((i + 1 : Nat) : Int)
        have C := rvB_range t (rvB t ((i + 1 : Nat) : Int)).2.1
        rcases A with ⟨a1, _⟩ | ⟨a1, a2, a3, a4, a5, a6⟩
        · rw [a1] at hm; exact absurd hm.1 (by decide)
        rcases C with ⟨c1, _⟩ | ⟨c1, c2, c3, c4, c5, c6⟩
        · rw [c1] at hm; exact absurd hm.2 (by decide)
        have va := var_back (t := t) (a := i + 1) (by omega) hm.1
        have hn : (rvB t ((i + 1 : Nat) : Int)).2.1 = (((rvB t ((i + 1 : Nat) : Int)).2.1.toNat : Nat) : Int) := by omega
        have vc := var_back (t := t) (a := (rvB t ((i + 1 : Nat) : Int)).2.1.toNat) (by omega) (by rw [← hn]; exact hm.2)
        rw [← hn] at vc
        have e : (byt t).drop i = recN (recAt t i) ++ (byt t).drop (recEnd t i).toNat := by
          rw [drop_byt hi, va, vc]
          unfold recN recAt recEnd
          simp only [List.cons_append, List.append_assoc]
          congr 1
          omega
        obtain ⟨N, n1, n2, n3⟩ := back t d (recEnd t i).toNat (acc ++ [recAt t i]) (by unfold recEnd; omega) (by unfold recEnd; omega) h
        refine ⟨recAt t i :: N, by rw [n1, List.append_assoc]; rfl, fun y hy => ?_, by rw [e, n3]; rfl⟩
        rcases List.mem_cons.1 hy with rfl | hy
        · exact ho
        · exact n2 y hy
      · rw [if_neg hc] at h; cases h
    · rw [if_neg hi]
      exact ⟨[], (List.append_nil _).symm, fun x hx => (by cases hx), List.drop_eq_nil_of_le (by rw [byt_len]; omega)⟩
theorem rr_none (t : ByteArray) : ∀ (d i : Nat) (acc : List S45), (rrB t d i acc).2 = false → (rrB t d i acc).1 = []
  | 0, i, acc, h => by cases h
  | d + 1, i, acc, h => by
    unfold rrB at h ⊢
    by_cases hi : i < t.size
    · rw [if_pos hi] at h ⊢
      by_cases hc : (recMay t i && recOk (recAt t i).f0 (recAt t i).f1 (recAt t i).f2 (recAt t i).f3) = true
      · rw [if_pos hc] at h ⊢; exact rr_none t d _ _ h
      · rw [if_neg hc]
    · rw [if_neg hi] at h; cases h

/-- The bytes of records, one behind the other. -/
def recsT (acc : ByteArray) : List S45 → ByteArray
  | [] => acc
  | x :: l => recsT (acc ++ recText x.f0 x.f1 x.f2 x.f3) l
theorem byt_recs : ∀ (l : List S45) (acc : ByteArray), (∀ x ∈ l, okR x = true) → byt (recsT acc l) = byt acc ++ recsN l
  | [], acc, _ => (List.append_nil _).symm
  | x :: l, acc, h => by
    show byt (recsT (acc ++ recText x.f0 x.f1 x.f2 x.f3) l) = byt acc ++ (recN x ++ recsN l)
    rw [byt_recs l _ fun y hy => h y (List.mem_cons_of_mem _ hy), byt_app, byt_rec (h x List.mem_cons_self), List.append_assoc]
theorem rec_size {x : S45} (h : okR x = true) : (recText x.f0 x.f1 x.f2 x.f3).size ≤ 11 := by
  obtain ⟨h1, h2, h3, h4, h5, h6, h7, h8⟩ := recOk_range h
  rw [← byt_len, byt_rec h, recN_len, varN_len, varN_len]
  have s1 := varL_len5 (n := x.f2.toNat) (by omega)
  have s2 := varL_len5 (n := x.f3.toNat) (by omega)
  omega
theorem recsT_size : ∀ (l : List S45) (acc : ByteArray), (∀ x ∈ l, okR x = true) → (recsT acc l).size ≤ acc.size + 11 * l.length
  | [], acc, _ => Nat.le_refl _
  | x :: l, acc, h => by
    have h1 := recsT_size l (acc ++ recText x.f0 x.f1 x.f2 x.f3) fun y hy => h y (List.mem_cons_of_mem _ hy)
    have h2 := rec_size (h x List.mem_cons_self)
    rw [ByteArray.size_append] at h1
    show (recsT (acc ++ recText x.f0 x.f1 x.f2 x.f3) l).size ≤ _
    simp only [List.length_cons]
    omega
end Go.Proofs.Ytodokejcmbjpbaa.Pu
