/- FnExactFindSame: functions of the translation as Lean functions with what their calls come to, plain lemmas on them, and, at the end, the row. Parts of one proof, merged by a program of this session; each part's own sentence stands at its head. -/
import Derived.Deep.QuietTactic
import Derived.Test.YtbbfkodckpfjcaaMFnExactFindSameb
/- sort.symMerge_func at elements of k cells: a merge. -/
namespace Go.Proofs.Ytbbfkodckpfjcaa.St
open Go Go.Proofs Go.Shelf Go.RowKit Go.Lib Go.Sort
variable {P : Program} {ρ : Ren} {α : Type} [Inhabited α]

set_option maxHeartbeats 4000000 in
set_option maxRecDepth 1000000 in
theorem symMerge (L : LaysGt.n30 P ρ) (enc : α → List Value) (k : Nat) (hk : ∀ x, (enc x).length = k) (lt : α → α → Bool) (hS : SWO lt) (g : Nat) (lb : Array Value) (sf : Nat) (sb : Array Value) (blk off : Nat) (eg : ∀ args w, (callFunc g args).run P w = .ok (.enter g args) w) :
    ∀ (N a m b : Nat) (d : Array α) (w : World) (A X Y Q : List α), b - a ≤ N → LessReadsK P g lb enc k lt blk off d.size w → SwapSwapsK P sf sb enc k blk off d.size → HoldsK enc k w blk off d → blk < w.heap.size → d.size < 4611686018427387904 →
    d.toList = A ++ (X ++ (Y ++ Q)) → A.length = a → a + X.length = m → m + Y.length = b → 0 < X.length → 0 < Y.length → Asc lt X → Asc lt Y →
    Calls P (ρ.f 30) #[.agg #[.func (.func g) #[] lb, .func (.func sf) #[] sb], .int .i64 a, .int .i64 m, .int .i64 b] w fun e w' => e = .returned (.tuple #[]) ∧ ∃ q os dk, w' = sortWorldK enc k w blk off q dk os ∧ dk.toList = A ++ (mrg lt X Y ++ Q)
  | 0, a, m, b, d, w, A, X, Y, Q, hN, _, _, _, _, _, _, ha, hm, hb, hX, hY, _, _ => by exfalso; omega
  | N + 1, a, m, b, d, w, A, X, Y, Q, hN, hless, hswap, hH, hblk, hsz, hd, ha, hm, hb, hX, hY, aX, aY => by
    have hds : A.length + (X.length + (Y.length + Q.length)) = d.size := by rw [← Array.length_toList, hd]; simp
    by_cases hX1 : X.length = 1
    · obtain ⟨x, rfl⟩ := List.length_eq_one_iff.1 hX1
      refine (symOne L enc k hk lt g lb sf sb blk off a m b d w A Y Q x eg hless hswap hH hblk hsz hd ha hm hb).mono ?_
      rintro e w' ⟨rfl, q, os, dk, t, hw, ht, h1, h2, hdk⟩
      refine ⟨rfl, q, os, dk, hw, ?_⟩
      have hda : d[a]! = x := at_list (A := A) (B := Y ++ Q) (by rw [hd]; rfl) ha.symm
      have hdm : ∀ i (h : i < Y.length), d[m + i]! = Y[i] := fun i h => at_mid (A := A ++ [x]) (Q := Q) (by rw [hd]; simp) h (by rw [List.length_append]; simp; simp at hm; omega)
      rw [hdk]
      have hm2 : mrg lt [x] Y = Y.take t ++ x :: Y.drop t := by
        have aY' := aY
        rw [← List.take_append_drop t Y] at aY'
        have e1 : mrg lt ([] ++ [x]) (Y.take t ++ Y.drop t) = mrg lt [] (Y.take t) ++ mrg lt [x] (Y.drop t) := by
          refine mrg_split [] [x] _ _ ?_ (by simp) (Asc.cross aY')
          rcases h1 with h1 | h1
          · subst h1; simp
          · rcases Nat.eq_zero_or_pos t with h0 | h0
            · subst h0; simp
            · obtain ⟨u, rfl⟩ : ∃ u, t = u + 1 := ⟨t - 1, by omega⟩
              rw [hda, show m + (u + 1) - 1 = m + u by omega, hdm u (by omega)] at h1
              have e := take_next (Y := Y) (t := u) (by omega)
              rw [e] at aY' ⊢
              exact cross_lt hS (X := []) (List.pairwise_singleton _ _) aY'.left h1
        rw [List.nil_append, List.take_append_drop, mrg_nil_left aY'.left] at e1
        rw [e1]
        congr 1
        rw [mrg_asc]; rfl
        refine List.pairwise_cons.2 ⟨?_, aY'.right⟩
        rcases h2 with h2 | h2
        · subst h2; simp
        · rcases Nat.lt_or_ge t Y.length with h0 | h0
          · rw [hda, hdm t h0] at h2
            have e := List.drop_eq_getElem_cons h0
            rw [e] at aY' ⊢
            intro z hz
            exact cross_ge hS (X := []) (List.pairwise_singleton _ _) aY'.right h2 z hz x (by simp)
          · rw [List.drop_eq_nil_of_le h0]; simp
      rw [hm2]; simp
    · by_cases hY1 : Y.length = 1
      · obtain ⟨x, rfl⟩ := List.length_eq_one_iff.1 hY1
        refine (symLast L enc k hk lt g lb sf sb blk off a m b d w A X Q x eg hless hswap hH hblk hsz (by rw [hd]; rfl) ha (by omega) hm hb).mono ?_
        rintro e w' ⟨rfl, q, os, dk, t, hw, ht, h1, h2, hdk⟩
        refine ⟨rfl, q, os, dk, hw, ?_⟩
        have hdm : d[m]! = x := at_list (A := A ++ X) (B := Q) (by rw [hd]; simp) (by simp; omega)
        have hda : ∀ i (h : i < X.length), d[a + i]! = X[i] := fun i h => at_mid hd h (by omega)
        rw [hdk]
        have hm2 : mrg lt X [x] = X.take t ++ x :: X.drop t := by
          have aX' := aX
          rw [← List.take_append_drop t X] at aX'
          have e1 : mrg lt (X.take t ++ X.drop t) ([x] ++ []) = mrg lt (X.take t) [x] ++ mrg lt (X.drop t) [] := by
            refine mrg_split _ _ [x] [] ?_ (by simp) (by simp)
            rcases h2 with h2 | h2
            · rw [List.drop_eq_nil_of_le (by omega)]; simp
            · rcases Nat.lt_or_ge t X.length with h0 | h0
              · rw [hdm, hda t h0] at h2
                have e := List.drop_eq_getElem_cons h0
                rw [e] at aX' ⊢
                exact cross_lt hS (Y := []) aX'.right (List.pairwise_singleton _ _) h2
              · rw [List.drop_eq_nil_of_le h0]; simp
          rw [List.append_nil, List.take_append_drop, mrg_nil] at e1
          rw [e1, mrg_cons, mrg_nil, ins_end]
          · simp
          · rcases h1 with h1 | h1
            · subst h1; simp
            · rcases Nat.eq_zero_or_pos t with h0 | h0
              · subst h0; simp
              · obtain ⟨u, rfl⟩ : ∃ u, t = u + 1 := ⟨t - 1, by omega⟩
                rw [hdm, show a + (u + 1) - 1 = a + u by omega, hda u (by omega)] at h1
                have e := take_next (Y := X) (t := u) (by omega)
                rw [e] at aX' ⊢
                exact cross_ge hS (Y := []) aX'.left (List.pairwise_singleton _ _) h1 x (by simp)
        rw [hm2]; simp
      · have mixed := L.mixed; have t0 := L.t0; have a0 := L.a0; have z0 := L.z0; have v0 := L.v0; have t3 := L.t3; have a3 := L.a3; have z3 := L.z3; have v3 := L.v3; have t4 := L.t4; have a4 := L.a4; have z4 := L.z4; have v4 := L.v4; have t26 := L.t26; have a26 := L.a26; have z26 := L.z26; have v26 := L.v26; have t38 := L.t38; have a38 := L.a38; have z38 := L.z38; have v38 := L.v38; have t42 := L.t42; have a42 := L.a42; have z42 := L.z42; have v42 := L.v42; have t47 := L.t47; have a47 := L.a47; have z47 := L.z47; have v47 := L.v47
        have u42 := run_underlying L.t42
        have e30 : ∀ args w, (callFunc (ρ.f 30) args).run P w = .ok (.enter (ρ.f 30) args) w := enters_of L.f30 (by kernel_rfl) rfl
        have e42 : ∀ args w, (callFunc (ρ.f 42) args).run P w = .ok (.enter (ρ.f 42) args) w := enters_of L.f42 (by kernel_rfl) rfl
        have LR : LaysGt.n42 P ρ := { L with }
        obtain ⟨mid, hmid⟩ : ∃ mid, mid = (a + b) / 2 := ⟨_, rfl⟩
        obtain ⟨lo, hi, hcase⟩ : ∃ lo hi, (m ≤ mid ∧ lo = a ∧ hi = m ∨ mid < m ∧ lo = mid + m - b ∧ hi = mid) := by
          rcases Nat.lt_or_ge mid m with h | h
          · exact ⟨_, _, .inr ⟨h, rfl, rfl⟩⟩
          · exact ⟨_, _, .inl ⟨h, rfl, rfl⟩⟩
        obtain ⟨W, hW⟩ : ∃ W, W = w.alloc (.cells #[.func (.func g) #[] lb, .func (.func sf) #[] sb] (ρ.t 42)) := ⟨_, rfl⟩
        have hH1 : HoldsK enc k W blk off d := by rw [hW, alloc_eq_grow]; exact holdsK_grow enc k w _ blk off d hblk hH
        have hb1 : blk < W.heap.size := by rw [hW, alloc_eq_grow, size_grow]; omega
        have hls : LessReadsK P g lb enc k lt blk off d.size W := by rw [hW, alloc_eq_grow]; exact hless.grow hblk _
        have IH : ∀ (q : Nat) (dk : Array α) (os : Array Obj) (A' X' Y' Q' : List α) (a' m' b' : Nat), dk.toList = A' ++ (X' ++ (Y' ++ Q')) → dk.size = d.size → b' - a' ≤ N → A'.length = a' → a' + X'.length = m' → m' + Y'.length = b' → 0 < X'.length → 0 < Y'.length → Asc lt X' → Asc lt Y' →
            Calls P (ρ.f 30) #[.agg #[.func (.func g) #[] lb, .func (.func sf) #[] sb], .int .i64 a', .int .i64 m', .int .i64 b'] (sortWorldK enc k W blk off q dk os) fun e w' => e = .returned (.tuple #[]) ∧ ∃ q os dk, w' = sortWorldK enc k W blk off q dk os ∧ dk.toList = A' ++ (mrg lt X' Y' ++ Q') := by
          intro q dk os A' X' Y' Q' a' m' b' h1 hss h2 h3 h4 h5 h6 h7 h8 h9
          refine (symMerge L enc k hk lt hS g lb sf sb blk off eg N a' m' b' dk (sortWorldK enc k W blk off q dk os) A' X' Y' Q' h2 (by rw [hss]; exact skLess hls hb1 q dk os hss) (by rw [hss]; exact hswap) (skHolds enc k W blk off q d dk os hb1 hH1 hss) (skLt enc k W blk off q dk os hb1) (by rw [hss]; exact hsz) h1 h3 h4 h5 h6 h7 h8 h9).mono ?_
          rintro e w' ⟨rfl, q', os', dk', rfl, hd'⟩
          exact ⟨rfl, q + q', os ++ os', dk', skOn enc k W blk off q q' dk dk' os os' hb1 (by rw [size_of_list hd', size_of_list h1]; simp [len_mrg]; omega), hd'⟩
        have size : ∀ {dk : Array α} {l : List α}, dk.toList = l → l.length = d.size → dk.size = d.size := fun h e => (size_of_list h).trans e
        go_enter L.f30, BodyGt.n30_ntmps ρ
        go_wp2
        rw [← hW, show ((m : Int) - (a : Int) == 1) = false by simp; omega, show ((b : Int) - (m : Int) == 1) = false by simp; omega]
        go_wp2
        all_goals
          (try rw [show ((m : Int) - (a : Int) == 1) = false by simp; omega])
          (try rw [show ((b : Int) - (m : Int) == 1) = false by simp; omega])
          first | rw [show decide (((a : Int) + (b : Int)) / 2 < (m : Int)) = true by simp; omega] | rw [show decide (((a : Int) + (b : Int)) / 2 < (m : Int)) = false by simp; omega]
          go_loopg [18, 19, 21] (b - a) (fun kk s8 s9 s21 wr => ∃ (i j q : Nat) (os : Array Obj), s8 = .int .i64 i ∧ s9 = .int .i64 j ∧ lo ≤ i ∧ i ≤ j ∧ j ≤ hi ∧ j - i ≤ kk ∧ wr = sortWorldK enc k W blk off q d os ∧
            (i = lo ∨ lt d[mid + m - i]! d[i - 1]! = false) ∧ (j = hi ∨ lt d[mid + m - 1 - j]! d[j]! = true))
          case atStart => exact ⟨lo, hi, 0, #[], by first | rfl | (congr 1; omega), by first | rfl | (congr 1; omega), Nat.le_refl _, by omega, Nat.le_refl _, by omega, by first | exact (skStart enc k _ blk off d hH1).symm | exact hW.symm.trans (skStart enc k _ blk off d hH1).symm, .inl rfl, .inl rfl⟩
          case round =>
            obtain ⟨i, j, q, os, rfl, rfl, hi1, hij, hj, hkk, hwr, hil, hjl⟩ := hrel
            have c0 : wr.cell? ⟨w.heap.size, 0, none⟩ = some (.func (.func g) #[] lb) := by
              rw [hwr, skCell enc k _ blk off q _ _ _ _ (by rw [hW]; simp) (by omega), hW]; simp
            have c1 : wr.cell? ⟨w.heap.size, 1, none⟩ = some (.func (.func sf) #[] sb) := by
              rw [hwr, skCell enc k _ blk off q _ _ _ _ (by rw [hW]; simp) (by omega), hW]; simp
            by_cases hlt : i < j
            · obtain ⟨h, hh⟩ : ∃ h, h = (i + j) / 2 := ⟨_, rfl⟩
              obtain ⟨p, hp⟩ : ∃ p, p = mid + m - 1 - h := ⟨_, rfl⟩
              have hls := skLess hls hb1 q d os rfl 0 #[] d rfl p h (by omega) (by omega)
              rw [skStart enc k _ blk off d (skHolds enc k _ blk off q d d os hb1 hH1 rfl), ← hwr, show ((p : Nat) : Int) = ((a : Int) + (b : Int)) / 2 + (m : Int) - 1 - ((i : Int) + (j : Int)) / 2 by omega, show ((h : Nat) : Int) = ((i : Int) + (j : Int)) / 2 by omega] at hls
              have F : Aside (wr = sortWorldK enc k W blk off q d os ∧ (i = lo ∨ lt d[mid + m - i]! d[i - 1]! = false) ∧ (j = hi ∨ lt d[mid + m - 1 - j]! d[j]! = true)) := ⟨hwr, hil, hjl⟩
              clear hwr hil hjl hH hH1 hswap hless IH size hW
              cases hlv : lt d[p]! d[h]! with
              | false =>
                rw [hlv] at hls
                go_wp2_with (go_at_fn g; refine hls.mono ?_; rintro e w' ⟨rfl, q', rfl⟩)
                go_roundg (j - (h + 1))
                case measure => omega
                case rel => exact ⟨h + 1, j, q + q', os, by congr 1; omega, rfl, by omega, by omega, hj, Nat.le_refl _, by rw [F.out.1, skDrewN], .inr (by rw [show mid + m - (h + 1) = p by omega]; exact hlv), F.out.2.2⟩
              | true =>
                rw [hlv] at hls
                go_wp2_with (go_at_fn g; refine hls.mono ?_; rintro e w' ⟨rfl, q', rfl⟩)
                go_roundg (h - i)
                case measure => omega
                case rel => exact ⟨i, h, q + q', os, rfl, by congr 1; omega, hi1, by omega, by omega, Nat.le_refl _, by rw [F.out.1, skDrewN], F.out.2.1, .inr (by rw [← hp]; exact hlv)⟩
            · have hij2 : i = j := by omega
              subst hij2
              obtain ⟨e, he⟩ : ∃ e, e = mid + m - i := ⟨_, rfl⟩
              have hsp := sym_split hS hd ha hm hb aX aY hmid hcase hi1 hj hil hjl
              have aX1 : Asc lt (X.take (i - a)) := by have h := aX; rw [← List.take_append_drop (i - a) X] at h; exact h.left
              have aX2 : Asc lt (X.drop (i - a)) := by have h := aX; rw [← List.take_append_drop (i - a) X] at h; exact h.right
              have aY1 : Asc lt (Y.take (mid - i)) := by have h := aY; rw [← List.take_append_drop (mid - i) Y] at h; exact h.left
              have aY2 : Asc lt (Y.drop (mid - i)) := by have h := aY; rw [← List.take_append_drop (mid - i) Y] at h; exact h.right
              have lX1 : (X.take (i - a)).length = i - a := by rw [List.length_take]; omega
              have lY1 : (Y.take (mid - i)).length = mid - i := by rw [List.length_take]; omega
              have lX2 : (X.drop (i - a)).length = m - i := by rw [List.length_drop]; omega
              have lY2 : (Y.drop (mid - i)).length = b - e := by rw [List.length_drop]; omega
              have eX : X = X.take (i - a) ++ X.drop (i - a) := (List.take_append_drop _ _).symm
              have eY : Y = Y.take (mid - i) ++ Y.drop (mid - i) := (List.take_append_drop _ _).symm
              generalize X.take (i - a) = X1 at *
              generalize X.drop (i - a) = X2 at *
              generalize Y.take (mid - i) = Y1 at *
              generalize Y.drop (mid - i) = Y2 at *
              subst eX eY
              have eM : ((a : Int) + (b : Int)) / 2 = ((mid : Nat) : Int) := by omega
              have eE : ((a : Int) + (b : Int)) / 2 + (m : Int) - (i : Int) = ((e : Nat) : Int) := by omega
              -- the turning, where there is one
              have R : i < m → m < e → Calls P (ρ.f 42) #[.agg #[.func (.func g) #[] lb, .func (.func sf) #[] sb], .int .i64 i, .int .i64 m, .int .i64 (((a : Int) + (b : Int)) / 2 + (m : Int) - (i : Int))] wr fun e w' => e = .returned (.tuple #[]) ∧
                  ∃ q os dk, w' = sortWorldK enc k W blk off q dk os ∧ dk.toList = A ++ (X1 ++ (Y1 ++ (X2 ++ (Y2 ++ Q)))) := by
                intro h1 h2
                rw [eE, hwr]
                refine (rotate LR enc k hk (.func g) #[] lb sf sb blk off i m e d _ (A ++ X1) X2 Y1 (Y2 ++ Q) hswap (skHolds enc k W blk off q d d os hb1 hH1 rfl) (skLt enc k W blk off q d os hb1) hsz (by rw [hd]; simp) (by rw [List.length_append]; omega) (by omega) (by omega) (by omega) (by omega)).mono ?_
                rintro e w' ⟨rfl, q', os', dk', rfl, hd'⟩
                exact ⟨rfl, q + q', os ++ os', dk', skOn enc k W blk off q q' d dk' os os' hb1 (by rw [size_of_list hd', size_of_list hd]; simp; omega), by rw [hd']; simp⟩
              have R0 : ¬ (i < m ∧ m < e) → d.toList = A ++ (X1 ++ (Y1 ++ (X2 ++ (Y2 ++ Q)))) := by
                intro h
                rw [hd]
                rcases Nat.lt_or_ge i m with h1 | h1
                · obtain rfl : Y1 = [] := List.length_eq_zero_iff.1 (by omega)
                  simp
                · obtain rfl : X2 = [] := List.length_eq_zero_iff.1 (by omega)
                  simp
              have S1 : ∀ q dk os, dk.toList = A ++ (X1 ++ (Y1 ++ (X2 ++ (Y2 ++ Q)))) → a < i → i < mid → Calls P (ρ.f 30) #[.agg #[.func (.func g) #[] lb, .func (.func sf) #[] sb], .int .i64 a, .int .i64 i, .int .i64 (((a : Int) + (b : Int)) / 2)] (sortWorldK enc k W blk off q dk os) fun e w' => e = .returned (.tuple #[]) ∧
                  ∃ q os dk, w' = sortWorldK enc k W blk off q dk os ∧ dk.toList = A ++ (mrg lt X1 Y1 ++ (X2 ++ (Y2 ++ Q))) := by
                intro q dk os h h1 h2
                rw [eM]
                exact IH q dk os A X1 Y1 _ a i mid h (size h (by simp; simp at hds; omega)) (by omega) ha (by omega) (by omega) (by omega) (by omega) aX1 aY1
              have S10 : ¬ (a < i ∧ i < mid) → mrg lt X1 Y1 = X1 ++ Y1 := by
                intro h
                rcases Nat.lt_or_ge a i with h1 | h1
                · obtain rfl : Y1 = [] := List.length_eq_zero_iff.1 (by omega)
                  simp [mrg_nil]
                · obtain rfl : X1 = [] := List.length_eq_zero_iff.1 (by omega)
                  rw [mrg_nil_left aY1]; rfl
              have S2 : ∀ q dk os, dk.toList = A ++ (mrg lt X1 Y1 ++ (X2 ++ (Y2 ++ Q))) → mid < e → e < b → Calls P (ρ.f 30) #[.agg #[.func (.func g) #[] lb, .func (.func sf) #[] sb], .int .i64 (((a : Int) + (b : Int)) / 2), .int .i64 (((a : Int) + (b : Int)) / 2 + (m : Int) - (i : Int)), .int .i64 b] (sortWorldK enc k W blk off q dk os) fun e w' => e = .returned (.tuple #[]) ∧
                  ∃ q os dk, w' = sortWorldK enc k W blk off q dk os ∧ dk.toList = A ++ (mrg lt X1 Y1 ++ (mrg lt X2 Y2 ++ Q)) := by
                intro q dk os h h1 h2
                rw [eE, eM]
                refine (IH q dk os (A ++ mrg lt X1 Y1) X2 Y2 Q mid e b (by rw [h]; simp) (size h (by simp [len_mrg]; simp at hds; omega)) (by omega) (by rw [List.length_append, len_mrg]; omega) (by omega) (by omega) (by omega) (by omega) aX2 aY2).mono ?_
                rintro e w' ⟨rfl, q', os', dk', rfl, hd'⟩
                exact ⟨rfl, q', os', dk', rfl, by rw [hd']; simp⟩
              have S20 : ¬ (mid < e ∧ e < b) → mrg lt X2 Y2 = X2 ++ Y2 := by
                intro h
                rcases Nat.lt_or_ge mid e with h1 | h1
                · obtain rfl : Y2 = [] := List.length_eq_zero_iff.1 (by omega)
                  simp [mrg_nil]
                · obtain rfl : X2 = [] := List.length_eq_zero_iff.1 (by omega)
                  rw [mrg_nil_left aY2]; rfl
              have Fin : ∀ q dk os, dk.toList = A ++ (mrg lt X1 Y1 ++ (mrg lt X2 Y2 ++ Q)) → ∃ q' os' dk', sortWorldK enc k W blk off q dk os = sortWorldK enc k w blk off q' dk' os' ∧ dk'.toList = A ++ (mrg lt (X1 ++ X2) (Y1 ++ Y2) ++ Q) := by
                intro q dk os h
                have hh := skAlloc enc k w (.cells #[.func (.func g) #[] lb, .func (.func sf) #[] sb] (ρ.t 42)) blk off q dk os hblk d hH (size h (by simp [len_mrg]; simp at hds; omega))
                rw [← hW] at hh
                exact ⟨q, _, dk, hh, by rw [h, hsp]; simp⟩
              have bx0 : ∀ q (dk : Array α) os, (sortWorldK enc k W blk off q dk os).cell? ⟨w.heap.size, 0, none⟩ = some (.func (.func g) #[] lb) := fun q dk os => by
                rw [skCell enc k _ blk off q _ _ _ _ (by rw [hW]; simp) (by omega), hW]; simp
              have bx1 : ∀ q (dk : Array α) os, (sortWorldK enc k W blk off q dk os).cell? ⟨w.heap.size, 1, none⟩ = some (.func (.func sf) #[] sb) := fun q dk os => by
                rw [skCell enc k _ blk off q _ _ _ _ (by rw [hW]; simp) (by omega), hW]; simp
              clear c0 c1
              have bR : Aside _ := R
              have bR0 : Aside _ := R0
              have bS1 : Aside _ := S1
              have bS10 : Aside _ := S10
              have bS2 : Aside _ := S2
              have bS20 : Aside _ := S20
              have bFin : Aside _ := Fin
              clear eM eE hW R R0 S1 S10 S2 S20 Fin IH size hls hless hswap hH hH1 hsp aX aY aX1 aX2 aY1 aY2 hd hil hjl
              subst hwr
              go_wp2_with (first
                | (go_at_fn (ρ.f 42); refine (bR.out (by omega) (by omega)).mono ?_; rintro e1 w1 ⟨rfl, q1, os1, dk1, rfl, hd1⟩; have bd1 : Aside _ := hd1; clear hd1)
                | (go_at_fn_of (ρ.f 30) (Value.int .i64 (a : Int)); refine (bS1.out _ _ _ (by first | exact bd1.out | exact bR0.out (by omega)) (by omega) (by omega)).mono ?_; rintro e2 w2 ⟨rfl, q2, os2, dk2, rfl, hd2⟩; have bd2 : Aside _ := hd2; clear hd2)
                | (go_at_fn_of (ρ.f 30) (Value.int .i64 (b : Int)); refine (bS2.out _ _ _ (by first | exact bd2.out | (rw [bS10.out (by omega)]; first | simpa using bd1.out | simpa using bR0.out (by omega))) (by omega) (by omega)).mono ?_; rintro e3 w3 ⟨rfl, q3, os3, dk3, rfl, hd3⟩; have bd3 : Aside _ := hd3; clear hd3))
              all_goals
                go_end0
                exact ⟨rfl, bFin.out _ _ _ (by first | exact bd3.out | (rw [bS20.out (by omega)]; first | simpa using bd2.out | (rw [bS10.out (by omega)]; first | simpa using bd1.out | simpa using bR0.out (by omega))))⟩
end Go.Proofs.Ytbbfkodckpfjcaa.St

/- sort.stable_func at elements of k cells, of any number: the stable order. -/
namespace Go.Proofs.Ytbbfkodckpfjcaa.St
open Go Go.Proofs Go.Shelf Go.RowKit Go.Lib Go.Sort
set_option linter.unusedVariables false
section
variable {α : Type} {lt : α → α → Bool}
/-- D is L, each stretch of B sorted (the last may be short). -/
inductive SB (lt : α → α → Bool) (B : Nat) : List α → List α → Prop
  | nil : SB lt B [] []
  | last (X : List α) : X.length ≤ B → SB lt B X (isort lt X)
  | cons (X L D : List α) : X.length = B → SB lt B L D → SB lt B (X ++ L) (isort lt X ++ D)
inductive Full (lt : α → α → Bool) (B : Nat) : List α → List α → Prop
  | nil : Full lt B [] []
  | snoc (L D X : List α) : Full lt B L D → X.length = B → Full lt B (L ++ X) (D ++ isort lt X)
theorem Full.sb {B : Nat} {L D : List α} (h : Full lt B L D) : ∀ {R Z : List α}, SB lt B R Z → SB lt B (L ++ R) (D ++ Z) := by
  induction h with
  | nil => intro R Z h; exact h
  | snoc L D X _ hX ih => intro R Z h; rw [List.append_assoc, List.append_assoc]; exact ih (.cons X R Z hX h)
theorem Full.len {B : Nat} {L D : List α} (h : Full lt B L D) : D.length = L.length := by
  induction h with
  | nil => rfl
  | snoc L D X _ hX ih => rw [List.length_append, List.length_append, ih, len_isort]
theorem sb_nil {B : Nat} (hB : 0 < B) {R Z : List α} (h : SB lt B R Z) (hR : R = []) : Z = [] := by
  cases h with
  | nil => rfl
  | last h => subst hR; rfl
  | cons X L D hX h => simp at hR; rw [hR.1] at hX; simp at hX; omega
theorem sb_short {B : Nat} (hB : 0 < B) {R Z : List α} (h : SB lt B R Z) (hR : R.length ≤ B) : Z = isort lt R := by
  cases h with
  | nil => rfl
  | last h => rfl
  | cons X L D hX h =>
    rw [List.length_append] at hR
    obtain rfl : L = [] := List.length_eq_zero_iff.1 (by omega)
    rw [sb_nil hB h rfl]; simp
theorem sb_head {B : Nat} (hB : 0 < B) {R Z : List α} (h : SB lt B R Z) (hR : B ≤ R.length) : ∃ X L D, R = X ++ L ∧ X.length = B ∧ Z = isort lt X ++ D ∧ SB lt B L D := by
  cases h with
  | nil => simp at hR; omega
  | last h => exact ⟨R, [], [], by simp, by omega, by simp, .nil⟩
  | cons X L D hX h => exact ⟨X, L, D, rfl, hX, rfl, h⟩
theorem SB.len {B : Nat} {L D : List α} (h : SB lt B L D) : D.length = L.length := by
  induction h with
  | nil => rfl
  | last X _ => exact len_isort _
  | cons X L D _ _ ih => rw [List.length_append, List.length_append, ih, len_isort]
end
variable {P : Program} {ρ : Ren} {α : Type} [Inhabited α]
theorem insK (L : LaysGt.n29 P ρ) (enc : α → List Value) (k : Nat) (hk : ∀ x, (enc x).length = k) (lt : α → α → Bool) (g : Nat) (lb : Array Value) (sf : Nat) (sb : Array Value) (blk off a b : Nat) (d : Array α) (w : World) (A M Q : List α)
    (eg : ∀ args w, (callFunc g args).run P w = .ok (.enter g args) w) (hless : LessReadsK P g lb enc k lt blk off d.size w) (hswap : SwapSwapsK P sf sb enc k blk off d.size)
    (hH : HoldsK enc k w blk off d) (hblk : blk < w.heap.size) (hsz : d.size < 4611686018427387904) (hd : d.toList = A ++ (M ++ Q)) (ha : A.length = a) (hb : a + M.length = b) :
    Calls P (ρ.f 29) #[.agg #[.func (.func g) #[] lb, .func (.func sf) #[] sb], .int .i64 a, .int .i64 b] w fun e w' => e = .returned (.tuple #[]) ∧ ∃ q os dk, w' = sortWorldK enc k w blk off q dk os ∧ dk.toList = A ++ (isort lt M ++ Q) := by
  have LI : LaysGg.n26 P ρ.viaGt := L.elder
  have hds : A.length + (M.length + Q.length) = d.size := by rw [← Array.length_toList, hd]; simp
  have h := Any.insertionSort_func_cells (ρ := ρ.viaGt) LI enc k hk lt g lb sf sb blk off a b d w eg hless hswap hH hblk (by omega) (by omega) hsz
  refine h.mono ?_
  rintro e w' ⟨rfl, n, rfl⟩
  have e : putRowK enc k (Sort.ahead (w.alloc (.cells #[.func (.func g) #[] lb, .func (.func sf) #[] sb] (ρ.viaGt.t 44))) n) blk off (insertionSort lt d a b) = sortWorldK enc k w blk off n (insertionSort lt d a b) #[.cells #[.func (.func g) #[] lb, .func (.func sf) #[] sb] (ρ.viaGt.t 44)] := by
    rw [alloc_eq_grow, ahead_grow, putRowK_grow enc k (Sort.ahead w n) _ blk off _ hblk]
    rfl
  exact ⟨rfl, n, _, _, e, insertionSort_list hd ha.symm hb.symm⟩
set_option maxHeartbeats 4000000 in
set_option maxRecDepth 1000000 in
theorem stable (L : LaysGt.n15 P ρ) (enc : α → List Value) (k : Nat) (hk : ∀ x, (enc x).length = k) (lt : α → α → Bool) (hS : SWO lt) (g : Nat) (lb : Array Value) (sf : Nat) (sb : Array Value) (blk off : Nat) (d : Array α) (w : World)
    (eg : ∀ args w, (callFunc g args).run P w = .ok (.enter g args) w) (hless : LessReadsK P g lb enc k lt blk off d.size w) (hswap : SwapSwapsK P sf sb enc k blk off d.size)
    (hH : HoldsK enc k w blk off d) (hblk : blk < w.heap.size) (hsz : d.size < 1152921504606846976) :
    Calls P (ρ.f 15) #[.agg #[.func (.func g) #[] lb, .func (.func sf) #[] sb], .int .i64 d.size] w fun e w' => e = .returned (.tuple #[]) ∧ ∃ q os dk, w' = sortWorldK enc k w blk off q dk os ∧ dk.toList = isort lt d.toList := by
  have mixed := L.mixed; have t0 := L.t0; have a0 := L.a0; have z0 := L.z0; have v0 := L.v0; have t3 := L.t3; have a3 := L.a3; have z3 := L.z3; have v3 := L.v3; have t4 := L.t4; have a4 := L.a4; have z4 := L.z4; have v4 := L.v4; have t26 := L.t26; have a26 := L.a26; have z26 := L.z26; have v26 := L.v26; have t38 := L.t38; have a38 := L.a38; have z38 := L.z38; have v38 := L.v38; have t42 := L.t42; have a42 := L.a42; have z42 := L.z42; have v42 := L.v42; have t47 := L.t47; have a47 := L.a47; have z47 := L.z47; have v47 := L.v47
  have u42 := run_underlying L.t42
  have e29 : ∀ args w, (callFunc (ρ.f 29) args).run P w = .ok (.enter (ρ.f 29) args) w := enters_of L.f29 (by kernel_rfl) rfl
  have e30 : ∀ args w, (callFunc (ρ.f 30) args).run P w = .ok (.enter (ρ.f 30) args) w := enters_of L.f30 (by kernel_rfl) rfl
  have LI : LaysGt.n29 P ρ := { L with }
  have LM : LaysGt.n30 P ρ := { L with }
  obtain ⟨n, hn⟩ : ∃ n, n = d.size := ⟨_, rfl⟩
  have hnl : d.toList.length = n := by rw [hn]; simp
  obtain ⟨W, hW⟩ : ∃ W, W = w.alloc (.cells #[.func (.func g) #[] lb, .func (.func sf) #[] sb] (ρ.t 42)) := ⟨_, rfl⟩
  have hH1 : HoldsK enc k W blk off d := by rw [hW, alloc_eq_grow]; exact holdsK_grow enc k w _ blk off d hblk hH
  have hb1 : blk < W.heap.size := by rw [hW, alloc_eq_grow, size_grow]; omega
  have hls : LessReadsK P g lb enc k lt blk off d.size W := by rw [hW, alloc_eq_grow]; exact hless.grow hblk _
  have bx0 : ∀ q (dk : Array α) os, (sortWorldK enc k W blk off q dk os).cell? ⟨w.heap.size, 0, none⟩ = some (.func (.func g) #[] lb) := fun q dk os => by
    rw [skCell enc k _ blk off q _ _ _ _ (by rw [hW]; simp) (by omega), hW]; simp
  have bx1 : ∀ q (dk : Array α) os, (sortWorldK enc k W blk off q dk os).cell? ⟨w.heap.size, 1, none⟩ = some (.func (.func sf) #[] sb) := fun q dk os => by
    rw [skCell enc k _ blk off q _ _ _ _ (by rw [hW]; simp) (by omega), hW]; simp
  have size : ∀ {dk : Array α} {l : List α}, dk.toList = l → l.length = n → dk.size = d.size := fun h e => ((size_of_list h).trans e).trans hn
  have bI : Aside (∀ (q : Nat) (dk : Array α) (os : Array Obj) (A M Q : List α) (a b : Nat), dk.toList = A ++ (M ++ Q) → dk.size = d.size → A.length = a → a + M.length = b →
      Calls P (ρ.f 29) #[.agg #[.func (.func g) #[] lb, .func (.func sf) #[] sb], .int .i64 a, .int .i64 b] (sortWorldK enc k W blk off q dk os) fun e w' => e = .returned (.tuple #[]) ∧ ∃ q os dk, w' = sortWorldK enc k W blk off q dk os ∧ dk.toList = A ++ (isort lt M ++ Q)) := by
    intro q dk os A M Q a b h1 hss h3 h4
    refine (insK LI enc k hk lt g lb sf sb blk off a b dk (sortWorldK enc k W blk off q dk os) A M Q eg (by rw [hss]; exact skLess hls hb1 q dk os hss) (by rw [hss]; exact hswap) (skHolds enc k W blk off q d dk os hb1 hH1 hss) (skLt enc k W blk off q dk os hb1) (by rw [hss]; omega) h1 h3 h4).mono ?_
    rintro e w' ⟨rfl, q', os', dk', rfl, hd'⟩
    exact ⟨rfl, q + q', os ++ os', dk', skOn enc k W blk off q q' dk dk' os os' hb1 (by rw [size_of_list hd', size_of_list h1]; simp [len_isort]), hd'⟩
  have bM : Aside (∀ (q : Nat) (dk : Array α) (os : Array Obj) (A X Y Q : List α) (a m b : Nat), dk.toList = A ++ (isort lt X ++ (isort lt Y ++ Q)) → dk.size = d.size → A.length = a → a + X.length = m → m + Y.length = b → 0 < X.length → 0 < Y.length →
      Calls P (ρ.f 30) #[.agg #[.func (.func g) #[] lb, .func (.func sf) #[] sb], .int .i64 a, .int .i64 m, .int .i64 b] (sortWorldK enc k W blk off q dk os) fun e w' => e = .returned (.tuple #[]) ∧ ∃ q os dk, w' = sortWorldK enc k W blk off q dk os ∧ dk.toList = A ++ (isort lt (X ++ Y) ++ Q)) := by
    intro q dk os A X Y Q a m b h1 hss h3 h4 h5 h6 h7
    refine (symMerge LM enc k hk lt hS g lb sf sb blk off eg (b - a) a m b dk (sortWorldK enc k W blk off q dk os) A (isort lt X) (isort lt Y) Q (Nat.le_refl _) (by rw [hss]; exact skLess hls hb1 q dk os hss) (by rw [hss]; exact hswap) (skHolds enc k W blk off q d dk os hb1 hH1 hss) (skLt enc k W blk off q dk os hb1) (by rw [hss]; omega) h1 h3 (by rw [len_isort]; exact h4) (by rw [len_isort]; exact h5) (by rw [len_isort]; exact h6) (by rw [len_isort]; exact h7) (asc_isort hS _) (asc_isort hS _)).mono ?_
    rintro e w' ⟨rfl, q', os', dk', rfl, hd'⟩
    exact ⟨rfl, q + q', os ++ os', dk', skOn enc k W blk off q q' dk dk' os os' hb1 (by rw [size_of_list hd', size_of_list h1]; simp [len_mrg, len_isort]; omega), by rw [hd', isort_append hS]⟩
  have bFin : Aside (∀ q (dk : Array α) os, dk.size = d.size → ∃ q' os', sortWorldK enc k W blk off q dk os = sortWorldK enc k w blk off q' dk os') := by
    intro q dk os h
    have hh := skAlloc enc k w (.cells #[.func (.func g) #[] lb, .func (.func sf) #[] sb] (ρ.t 42)) blk off q dk os hblk d hH h
    rw [← hW] at hh
    exact ⟨q, _, hh⟩
  have bS : Aside (W = sortWorldK enc k W blk off 0 d #[]) := (skStart enc k _ blk off d hH1).symm
  have bW : Aside _ := hW
  have bn : Aside (n = d.size ∧ d.toList.length = n ∧ ∀ {dk : Array α} {l : List α}, dk.toList = l → l.length = n → dk.size = d.size) := ⟨hn, hnl, size⟩
  have hsz2 : n < 1152921504606846976 := by omega
  rw [← hn]
  generalize hdl : d.toList = l at bn hnl ⊢
  have bdl : Aside _ := hdl
  clear hls hless hswap hH hH1 hW hn size hdl hsz
  go_enter L.f15, BodyGt.n15_ntmps ρ
  go_wp2
  go_loopg [5, 6] (n + 1) (fun kk s5 s6 wr => ∃ (i q : Nat) (os : Array Obj) (dk : Array α) (A L1 R : List α), s5 = .int .i64 i ∧ s6 = .int .i64 ((i : Int) + 20) ∧ Aside (Full lt 20 L1 A ∧ l = L1 ++ R ∧ L1.length = i ∧ dk.toList = A ++ R) ∧ i + R.length = n ∧ R.length + 1 ≤ kk ∧ wr = sortWorldK enc k W blk off q dk os)
  case atStart => exact ⟨0, 0, #[], d, [], [], l, rfl, rfl, ⟨.nil, rfl, rfl, bdl⟩, by omega, by omega, bW.out.symm.trans bS⟩
  case round =>
    obtain ⟨i, q, os, dk, A, L1, R, rfl, rfl, bF, hin, hkk, rfl⟩ := hrel
    by_cases h20 : i + 20 ≤ n
    · have hc := bI.out q dk os A (R.take 20) (R.drop 20) i (i + 20) (by rw [bF.out.2.2.2, List.take_append_drop]) (bn.out.2.2 bF.out.2.2.2 (by rw [List.length_append, bF.out.1.len, bF.out.2.2.1]; exact hin)) (by rw [bF.out.1.len]; exact bF.out.2.2.1) (by rw [List.length_take]; omega)
      rw [Int.natCast_add] at hc
      simp only [Int.cast_ofNat_Int] at hc
      go_wp2
      go_wp2_with (go_at_fn (ρ.f 29); refine hc.mono ?_; rintro e w1 ⟨rfl, q', os', dk', rfl, hd'⟩)
      go_roundg (gk - 20)
      case measure => omega
      case rel =>
        refine ⟨i + 20, q', os', dk', A ++ isort lt (R.take 20), L1 ++ R.take 20, R.drop 20, by first | rfl | (congr 1; omega), by first | rfl | (congr 1; omega), ⟨.snoc _ _ _ bF.out.1 (by rw [List.length_take]; omega), ?_, ?_, ?_⟩, by rw [List.length_drop]; omega, by rw [List.length_drop]; omega, rfl⟩
        · rw [List.append_assoc, List.take_append_drop]; exact bF.out.2.1
        · rw [List.length_append, bF.out.2.2.1, List.length_take]; omega
        · rw [hd', List.append_assoc]
    · have hc := bI.out q dk os A R [] i n (by rw [bF.out.2.2.2, List.append_nil]) (bn.out.2.2 bF.out.2.2.2 (by rw [List.length_append, bF.out.1.len, bF.out.2.2.1]; exact hin)) (by rw [bF.out.1.len]; exact bF.out.2.2.1) hin
      go_wp2
      go_wp2_with (go_at_fn (ρ.f 29); refine hc.mono ?_; rintro e w1 ⟨rfl, q', os', dk', rfl, hd'⟩)
      have bB : Aside (SB lt 20 l dk'.toList) := by
        show SB lt 20 l dk'.toList
        rw [hd', bF.out.2.1, List.append_nil]
        exact bF.out.1.sb (.last R (by omega))
      have bz : Aside (dk'.size = d.size) := bn.out.2.2 hd' (by rw [List.length_append, List.length_append, len_isort, bF.out.1.len, bF.out.2.2.1]; simpa using hin)
      clear hd' hc bF hkk hin h20
      go_loopg [4, 5, 6, 7] n (fun kk s4 s5 s6 s7 wr => ∃ (B q : Nat) (os : Array Obj) (dk : Array α), s4 = .int .i64 B ∧ 20 ≤ B ∧ B < 1152921504606846976 * 2 ∧ n - B ≤ kk ∧ Aside (SB lt B l dk.toList ∧ dk.size = d.size) ∧ wr = sortWorldK enc k W blk off q dk os)
      case atStart => exact ⟨20, q', os', dk', rfl, by omega, by omega, by omega, ⟨bB, bz⟩, rfl⟩
      case round =>
        obtain ⟨B, q, os, dk, rfl, hB20, hBm, hkk, bF, rfl⟩ := hrel
        clear bB bz
        by_cases hB : B < n
        · go_wp2
          go_loopg [5, 6] n (fun kk s5 s6 wr => ∃ (i q : Nat) (os : Array Obj) (dk : Array α) (A Z L1 R : List α), s5 = .int .i64 i ∧ s6 = .int .i64 ((i : Int) + 2 * (B : Int)) ∧ Aside (Full lt (2 * B) L1 A ∧ SB lt B R Z ∧ l = L1 ++ R ∧ L1.length = i ∧ dk.toList = A ++ Z) ∧ i + R.length = n ∧ R.length ≤ kk ∧ wr = sortWorldK enc k W blk off q dk os)
          case atStart => exact ⟨0, q, os, dk, [], dk.toList, [], l, rfl, by first | rfl | (congr 1; omega), ⟨.nil, bF.out.1, rfl, rfl, rfl⟩, by omega, by omega, rfl⟩
          case round =>
            rename_i gk0 _ _ _ _
            clear bF
            obtain ⟨i, q, os, dk, A, Z, L1, R, rfl, rfl, bF, hin, hkk2, rfl⟩ := hrel
            have bz : Aside (dk.size = d.size) := bn.out.2.2 bF.out.2.2.2.2 (by rw [List.length_append, bF.out.1.len, bF.out.2.1.len, bF.out.2.2.2.1]; exact hin)
            by_cases h2 : i + 2 * B ≤ n
            · obtain ⟨X, R1, D1, rfl, hX, rfl, h1⟩ := sb_head (by omega) bF.out.2.1 (by omega)
              obtain ⟨Y, R2, D2, rfl, hY, rfl, h3⟩ := sb_head (by omega) h1 (by rw [List.length_append] at hin; omega)
              have hin' : i + (X.length + (Y.length + R2.length)) = n := by rw [← hin, List.length_append, List.length_append]
              have hkk' : X.length + (Y.length + R2.length) ≤ gk := by rw [List.length_append, List.length_append] at hkk2; exact hkk2
              have hc := bM.out q dk os A X Y D2 i (i + B) (i + 2 * B) bF.out.2.2.2.2 bz.out (by rw [bF.out.1.len]; exact bF.out.2.2.2.1) (by omega) (by omega) (by omega) (by omega)
              rw [show ((i + B : Nat) : Int) = (i : Int) + (B : Int) by omega, show ((i + 2 * B : Nat) : Int) = (i : Int) + 2 * (B : Int) by omega] at hc
              have b3 : Aside (SB lt B R2 D2) := h3
              clear h1 h3 hin hkk2
              go_wp2_with (go_at_fn (ρ.f 30); refine hc.mono ?_; rintro e w1 ⟨rfl, q', os', dk', rfl, hd'⟩)
              go_roundg (gk - 2 * B)
              case measure => omega
              case rel =>
                refine ⟨i + 2 * B, q', os', dk', A ++ isort lt (X ++ Y), D2, L1 ++ (X ++ Y), R2, by first | rfl | (congr 1; omega), by first | rfl | (congr 1; omega), ⟨.snoc _ _ _ bF.out.1 (by rw [List.length_append]; omega), b3, ?_, ?_, ?_⟩, by omega, by omega, rfl⟩
                · rw [bF.out.2.2.1]; simp
                · rw [List.length_append, bF.out.2.2.2.1, List.length_append]; omega
                · rw [hd', List.append_assoc]
            · by_cases h3 : i + B < n
              · obtain ⟨X, R1, D1, rfl, hX, rfl, h1⟩ := sb_head (by omega) bF.out.2.1 (by omega)
                have hin' : i + (X.length + R1.length) = n := by rw [← hin, List.length_append]
                obtain rfl := sb_short (by omega) h1 (by omega)
                have hc := bM.out q dk os A X R1 [] i (i + B) n (by rw [bF.out.2.2.2.2, List.append_nil]) bz.out (by rw [bF.out.1.len]; exact bF.out.2.2.2.1) (by omega) (by omega) (by omega) (by omega)
                rw [show ((i + B : Nat) : Int) = (i : Int) + (B : Int) by omega] at hc
                clear h1 hin hkk2
                go_wp2_with (go_at_fn (ρ.f 30); refine hc.mono ?_; rintro e w1 ⟨rfl, q', os', dk', rfl, hd'⟩)
                go_roundg (n - 2 * B)
                case measure => omega
                case rel =>
                  refine ⟨2 * B, q', os', dk', by first | rfl | (congr 1; omega), by omega, by omega, Nat.le_refl _, ⟨?_, ?_⟩, rfl⟩
                  · rw [hd', bF.out.2.2.1, List.append_nil]
                    exact bF.out.1.sb (.last _ (by rw [List.length_append]; omega))
                  · exact bn.out.2.2 hd' (by rw [List.length_append, List.length_append, len_isort, bF.out.1.len, bF.out.2.2.2.1, List.length_append]; simpa using hin')
              · go_wp2
                go_roundg (n - 2 * B)
                case measure => omega
                case rel =>
                  refine ⟨2 * B, q, os, dk, by first | rfl | (congr 1; omega), by omega, by omega, Nat.le_refl _, ⟨?_, bz⟩, rfl⟩
                  have := sb_short (by omega) bF.out.2.1 (by omega)
                  rw [bF.out.2.2.2.2, bF.out.2.2.1, this]
                  exact bF.out.1.sb (.last _ (by omega))
        · have bE : Aside (∃ q' os' dk', sortWorldK enc k W blk off q dk os = sortWorldK enc k w blk off q' dk' os' ∧ dk'.toList = isort lt l) := by
            obtain ⟨q', os', h⟩ := bFin.out q dk os bF.out.2
            exact ⟨q', os', dk, h, sb_short (by omega) bF.out.1 (by omega)⟩
          clear bF
          go_wp2
          go_end0
          exact ⟨rfl, bE.out⟩
end Go.Proofs.Ytbbfkodckpfjcaa.St

/- sort.SliceStable at elements of k cells, of any number: what the row holds: the insertion sort's, to the element. -/
namespace Go.Proofs.Ytbbfkodckpfjcaa.St
open Go Go.Proofs Go.Shelf Go.RowKit Go.Lib Go.Sort
variable {P : Program} {ρ : Ren} {α : Type} [Inhabited α]
theorem sliceStable (L : LaysGt.n8 P ρ) (t e : TypeId) (i ie : TypeInfo) (hi : P.info? t = some i) (hd : i.desc = .slice e) (hpk : P.packed t = false) (hie : P.info? e = some ie) (ke : Nat) (hke : ∀ w, (Extern.Rtype.kind e).run P w = .ok ke w)
    (enc : α → List Value) (k : Nat) (hk : ∀ x, (enc x).length = k) (hs1 : ie.size = k) (hagg : ∀ w, (isAgg e).run P w = .ok true w) (h1 : ∀ x, ∀ v ∈ enc x, v.oneCell' = true) (lt : α → α → Bool) (hS : SWO lt) (g : Nat) (lb : Array Value)
    (eg : ∀ args w, (callFunc g args).run P w = .ok (.enter g args) w) (blk off c : Nat) (d : Array α) (h2 : 2 ≤ d.size) (hsz : d.size < 1152921504606846976)
    (f : Nat) (hf : P.funcs.findIdx? (·.name == "internal/reflectlite" ++ ".Swapper$" ++ toString (swapperK d.size ie ke)) = some f)
    (gS : Bool) (hx : ∀ args W, (callFunc f args).run P W = ((Extern.ReflectliteSwapper.swap gS args).run P W).andThen fun v w' => .ok (.value v) w')
    (w : World) (hless : LessReadsK P g lb enc k lt blk off d.size w) (hH : HoldsK enc k w blk off d) (hblk : blk < w.heap.size) :
    Calls P (ρ.f 8) #[.iface t (.slice (some ⟨blk, off, none⟩) d.size c), .func (.func g) #[] lb] w fun e w' =>
      e = .returned (.tuple #[]) ∧ ∃ n os, w' = grow (putRowK enc k (Sort.ahead w n) blk off (Sort.insertionSort lt d 0 d.size)) os := by
  refine Any.sort_SliceStable_of_stable L t e i ie hi hd hpk hie ke hke _ d.size c (by omega) f hf (.func g) #[] lb w _ ?_
  have hB : sliceBound P e ie ke (some ⟨blk, off, none⟩) d.size c = #[.slice (some ⟨blk, off, none⟩) d.size c, typeHandle P e] := by
    unfold sliceBound; rw [if_neg (swapperK_gt _ _ _ h2)]
  have hW : stableWorld P ρ t (some ⟨blk, off, none⟩) d.size c w = grow w #[.cells #[.slice (some ⟨blk, off, none⟩) d.size c] t, .cells #[.pointer (some ⟨P.globals.size, t, none⟩), .pointer (some ⟨w.heap.size, 0, none⟩), .int .u64 151] (ρ.t 36)] := by
    unfold stableWorld; rw [alloc_eq_grow, alloc_eq_grow, grow_grow]; rfl
  generalize (#[.cells #[.slice (some ⟨blk, off, none⟩) d.size c] t, .cells #[.pointer (some ⟨P.globals.size, t, none⟩), .pointer (some ⟨w.heap.size, 0, none⟩), .int .u64 151] (ρ.t 36)] : Array Obj) = os0 at hW
  rw [hB, hW]
  have hp := stable (P := P) (ρ := ρ) { L with } enc k hk lt hS g lb f _ blk off d (grow w os0) eg (hless.grow hblk os0)
    (swapSwapsK_of_literal gS f hx e ie hie enc k hk hs1 hagg h1 blk off d.size c) (holdsK_grow enc k w _ blk off d hblk hH) (by rw [size_grow]; omega) hsz
  refine hp.mono ?_
  rintro e w' ⟨rfl, n, os, dk, rfl, hdk⟩
  have e2 : dk = Sort.insertionSort lt d 0 d.size := by
    apply Array.toList_inj.1
    have := insertionSort_list (lt := lt) (d := d) (A := []) (M := d.toList) (Q := []) (a := 0) (b := d.size) (by simp) rfl (by simp)
    rw [hdk, this]; simp
  subst e2
  exact ⟨rfl, n, _, by unfold sortWorldK; rw [ahead_grow, putRowK_grow enc k (Sort.ahead w n) _ blk off _ hblk, grow_grow]⟩
end Go.Proofs.Ytbbfkodckpfjcaa.St

/- sort.SliceStable, by a closure that captures the row's own variable: what it owes the plain interpreter. -/
namespace Go.Proofs.Ytbbfkodckpfjcaa.M2
open Go Go.Shelf Go.RowKit Go.Lib Go.Sort Go.Proofs.Ytbbfkodckpfjcaa.PK Go.Proofs.Ytbbfkodckpfjcaa.St
set_option linter.unusedVariables false
set_option linter.unusedSimpArgs false

noncomputable def lays8_ren : Go.Shelf.Ren := ⟨fun | 8 => 43 | 13 => 63 | 14 => 64 | 16 => 66 | 15 => 65 | 29 => 81 | 30 => 82 | 42 => 85 | 49 => 87 | n => n, fun | 20 => 20 | 26 => 83 | 36 => 102 | 0 => 0 | 38 => 104 | 42 => 108 | 3 => 3 | 4 => 4 | 47 => 113 | 17 => 17 | 33 => 99 | 34 => 100 | 89 => 134 | 12 => 12 | 56 => 92 | 82 => 127 | 5 => 5 | 83 => 128 | 84 => 129 | 85 => 130 | 86 => 131 | 87 => 132 | n => n, fun n => n⟩
theorem lays8 : LaysGt.n8 Try.prog lays8_ren where
  mixed := by kernel_rfl
  f8 := Try.func43.trans (congrArg some (by kernel_rfl))
  f13 := Try.func63.trans (congrArg some (by kernel_rfl))
  f14 := Try.func64.trans (congrArg some (by kernel_rfl))
  f15 := Try.func65.trans (congrArg some (by kernel_rfl))
  f16 := Try.func66.trans (congrArg some (by kernel_rfl))
  f29 := Try.func81.trans (congrArg some (by kernel_rfl))
  f30 := Try.func82.trans (congrArg some (by kernel_rfl))
  f42 := Try.func85.trans (congrArg some (by kernel_rfl))
  f49 := Try.func87.trans (congrArg some (by kernel_rfl))
  t0 := Try.underlying0
  a0 := Try.isAgg0
  z0 := Try.sizeOf0
  v0 := Try.zeroValue0
  i0 := by kernel_rfl
  t3 := Try.underlying3
  a3 := Try.isAgg3
  z3 := Try.sizeOf3
  v3 := Try.zeroValue3
  i3 := by kernel_rfl
  t4 := Try.underlying4
  a4 := Try.isAgg4
  z4 := Try.sizeOf4
  v4 := Try.zeroValue4
  i4 := by kernel_rfl
  t5 := Try.underlying5
  a5 := Try.isAgg5
  z5 := Try.sizeOf5
  v5 := Try.zeroValue5
  i5 := by kernel_rfl
  t12 := Try.underlying12
  a12 := Try.isAgg12
  z12 := Try.sizeOf12
  v12 := Try.zeroValue12
  i12 := by kernel_rfl
  t17 := Try.underlying17
  a17 := Try.isAgg17
  z17 := Try.sizeOf17
  v17 := Try.zeroValue17
  i17 := by kernel_rfl
  t20 := Try.underlying20
  a20 := Try.isAgg20
  z20 := Try.sizeOf20
  v20 := Try.zeroValue20
  i20 := by kernel_rfl
  t26 := Try.underlying83
  a26 := Try.isAgg83
  z26 := Try.sizeOf83
  v26 := Try.zeroValue83
  i26 := by kernel_rfl
  t33 := Try.underlying99
  a33 := Try.isAgg99
  z33 := Try.sizeOf99
  v33 := Try.zeroValue99
  i33 := by kernel_rfl
  t34 := Try.underlying100
  a34 := Try.isAgg100
  z34 := Try.sizeOf100
  v34 := Try.zeroValue100
  i34 := by kernel_rfl
  t36 := Try.underlying102
  a36 := Try.isAgg102
  z36 := Try.sizeOf102
  v36 := Try.zeroValue102
  i36 := by kernel_rfl
  t38 := Try.underlying104
  a38 := Try.isAgg104
  z38 := Try.sizeOf104
  v38 := Try.zeroValue104
  i38 := by kernel_rfl
  t42 := Try.underlying108
  a42 := Try.isAgg108
  z42 := Try.sizeOf108
  v42 := Try.zeroValue108
  i42 := by kernel_rfl
  t47 := Try.underlying113
  a47 := Try.isAgg113
  z47 := Try.sizeOf113
  v47 := Try.zeroValue113
  i47 := by kernel_rfl
  t56 := Try.underlying92
  a56 := Try.isAgg92
  z56 := Try.sizeOf92
  v56 := Try.zeroValue92
  i56 := by kernel_rfl
  t82 := Try.underlying127
  a82 := Try.isAgg127
  z82 := Try.sizeOf127
  v82 := Try.zeroValue127
  i82 := by kernel_rfl
  t83 := Try.underlying128
  a83 := Try.isAgg128
  z83 := Try.sizeOf128
  v83 := Try.zeroValue128
  i83 := by kernel_rfl
  t84 := Try.underlying129
  a84 := Try.isAgg129
  z84 := Try.sizeOf129
  v84 := Try.zeroValue129
  i84 := by kernel_rfl
  t85 := Try.underlying130
  a85 := Try.isAgg130
  z85 := Try.sizeOf130
  v85 := Try.zeroValue130
  i85 := by kernel_rfl
  t86 := Try.underlying131
  a86 := Try.isAgg131
  z86 := Try.sizeOf131
  v86 := Try.zeroValue131
  i86 := by kernel_rfl
  t87 := Try.underlying132
  a87 := Try.isAgg132
  z87 := Try.sizeOf132
  v87 := Try.zeroValue132
  i87 := by kernel_rfl
  t89 := Try.underlying134
  a89 := Try.isAgg134
  z89 := Try.sizeOf134
  v89 := Try.zeroValue134
  i89 := by kernel_rfl

noncomputable def svT : TypeInfo := (Try.prog.info? 48).get (by kernel_rfl)
noncomputable def svE : TypeInfo := (Try.prog.info? 45).get (by kernel_rfl)
theorem svK (n : Nat) (h2 : 2 ≤ n) : Lib.swapperK n svE 25 = 9 := by
  have a : svE.hasPointers = true := by kernel_rfl
  have b : svE.bytes = 72 := by kernel_rfl
  have c : (n == 0) = false := by simp; omega
  have d : (n == 1) = false := by simp; omega
  simp [Lib.swapperK, a, b, c, d]
def encK (x : S45) : List Value := [.int .i64 x.f0, .int .i64 x.f1, .int .i64 x.f2.f0, .int .i64 x.f2.f1, .int .i64 x.f2.f2, .int .i64 x.f2.f3, .int .i64 x.f2.f4, .string x.f2.f5]
theorem swoK : SWO ltK45 where
  irrefl := fun x => by simp [ltK45]
  trans := fun x y z h1 h2 => by simp [ltK45] at *; omega
  ntrans := fun x y z h1 h2 => by simp [ltK45] at *; omega
set_option maxHeartbeats 2000000 in
/-- The closure: the one element's number is below the other's. -/
theorem lessC (blk off c Bs size : Nat) (W : World) (G : Nat → Int) (h1 : W.cell? ⟨Bs, 0, none⟩ = some (.slice (some ⟨blk, off, none⟩) size c))
    (hc : ∀ t, t < size → W.cell? ⟨blk, off + t * 8 + 3, none⟩ = some (.int .i64 (G t))) (i j : Nat) (hi : i < size) (hj : j < size) (_hsz : size < 4611686018427387904) :
    Calls Try.prog 44 #[.int .i64 i, .int .i64 j, .pointer (some ⟨Bs, 0, none⟩)] W fun e w' => e = .returned (.bool (decide (G i < G j))) ∧ ∃ q, w' = W.drewN q := by
  have ci := hc i hi
  have cj := hc j hj
  go_enter Try.func44, Try.ntmps44
  go_wp2
  go_quiet (fail)
  go_wp2
  go_ret
  exact ⟨rfl, nq, rfl⟩
theorem lsort_len (l : List S45) : (lsort45 l).length = l.length := by
  have h := insertionSort_holds (lt := ltK45) swoK l.toArray 0 l.length (Nat.zero_le _) (by simp)
  unfold lsort45
  rw [Array.length_toList, h.1.1]; simp
theorem lsort_tiny {l : List S45} (h : l.length ≤ 1) : lsort45 l = l := by
  unfold lsort45 insertionSort
  rw [insOuter, if_neg (by omega)]
theorem holds_of {w : World} {l : List S45} {gg o cap : Nat} (hr : RowAt kit w .t45 l gg o cap) : HoldsK encK 8 w gg o l.toArray := by
  obtain ⟨arr, e, h1, h2, h3⟩ := hr
  intro j hj
  have hj : j < l.length * 8 := by simpa using hj
  refine ⟨?_, by simp [World.frozen?, h1]⟩
  have hi : j / 8 < l.length := by omega
  rw [get_flatK _ _ _ j (by simpa using hj)]
  have e1 : (l.toArray)[j / 8]! = l[j / 8] := by rw [getElem!_pos _ _ (by simpa using hi)]; simp
  rw [e1]
  have hx : l[j / 8]? = some l[j / 8] := List.getElem?_eq_getElem hi
  have hc : w.cell? ⟨gg, o + j, none⟩ = arr[o + j]? := by simp [World.cell?, h1]
  have h2 : j % 8 = 0 ∨ j % 8 = 1 ∨ j % 8 = 2 ∨ j % 8 = 3 ∨ j % 8 = 4 ∨ j % 8 = 5 ∨ j % 8 = 6 ∨ j % 8 = 7 := by omega
  rw [hc]
  have key : ∀ c, c < 8 → j % 8 = c → ∀ v, (kit.emb .t45 l[j / 8])[c]? = some (.sc v) → arr[o + j]? = some v := fun c hc hm v hv => by
    have := h3 _ _ hx c (.sc v) hv
    rw [show o + (j / 8 * kit.cells .t45 + c) = o + j by show o + (j / 8 * 8 + c) = _; omega] at this
    exact this
  rcases h2 with h | h | h | h | h | h | h | h
  · rw [key 0 (by omega) h _ rfl, h]; rfl
  · rw [key 1 (by omega) h _ rfl, h]; rfl
  · rw [key 2 (by omega) h _ rfl, h]; rfl
  · rw [key 3 (by omega) h _ rfl, h]; rfl
  · rw [key 4 (by omega) h _ rfl, h]; rfl
  · rw [key 5 (by omega) h _ rfl, h]; rfl
  · rw [key 6 (by omega) h _ rfl, h]; rfl
  · rw [key 7 (by omega) h _ rfl, h]; rfl
theorem row_of {w : World} {l : List S45} {gg o cap : Nat} {arr : Array Value} {e : TypeId} (h1 : w.heap[gg]? = some (.cells arr e (0, 0))) (h2 : o + cap * 8 ≤ arr.size) (hl : l.length ≤ cap)
    (h : ∀ j, j < l.length * 8 → arr[o + j]? = some ((encK (l.toArray)[j / 8]!)[j % 8]!)) : RowAt kit w .t45 l gg o cap := by
  refine ⟨arr, e, h1, h2, fun i x hx j c hj => ?_⟩
  have hi : i < l.length := (List.getElem?_eq_some_iff.1 hx).1
  have hxe : l[i] = x := (List.getElem?_eq_some_iff.1 hx).2
  have hj2 : j < 8 := (List.getElem?_eq_some_iff.1 hj).1
  have := h (i * 8 + j) (by omega)
  rw [show (i * 8 + j) / 8 = i by omega, show (i * 8 + j) % 8 = j by omega] at this
  have e1 : (l.toArray)[i]! = x := by rw [getElem!_pos _ _ (by simpa using hi)]; simpa using hxe
  rw [e1] at this
  show arr[o + (i * 8 + j)]? = _
  rw [this]
  have hj3 : j = 0 ∨ j = 1 ∨ j = 2 ∨ j = 3 ∨ j = 4 ∨ j = 5 ∨ j = 6 ∨ j = 7 := by omega
  rcases hj3 with rfl | rfl | rfl | rfl | rfl | rfl | rfl | rfl <;> cases hj <;> rfl
theorem kept_grow {w : World} {os : Array Obj} {O : Nat → Prop} : Kept w (grow w os) O := ⟨rfl, rfl, rfl, by simp, fun k hk _ => heap_grow_old _ _ hk⟩
theorem libRun (w : World) (a : Option Addr) (cap : Nat) (l : List S45) (b : Nat) (hlim : l.length ≤ 576460752303423488) (hle : l.length ≤ cap) (hcap : 0 < cap → ∃ gg o, a = some ⟨gg, o, none⟩ ∧ RowAt kit w .t45 l gg o cap ∧ Held w (.slice a l.length cap) b gg none) :
    Calls Try.prog 43 #[.iface 48 (.slice a l.length cap), .func (.func 44) #[] #[.pointer (some ⟨b, 0, none⟩)]] w fun ev w' => ev = .returned (.tuple #[]) ∧
      (cap = 0 ∧ Kept w w' (fun _ => False) ∨ 0 < cap ∧ ∃ gg o, a = some ⟨gg, o, none⟩ ∧ Kept w w' (· = gg) ∧ RowAt kit w' .t45 (lsort45 l) gg o cap) := by
  have tiny : l.length ≤ 1 → Calls Try.prog 43 #[.iface 48 (.slice a l.length cap), .func (.func 44) #[] #[.pointer (some ⟨b, 0, none⟩)]] w fun e w' => e = .returned (.tuple #[]) ∧ ∃ os, w' = grow w os := fun h1 => by
    have hsw : ∀ n, n ≤ 1 → ∃ f, Try.prog.funcs.findIdx? (·.name == "internal/reflectlite" ++ ".Swapper$" ++ toString (swapperK n svE 25)) = some f := fun n hn => by
      match n, hn with
      | 0, _ => exact ⟨72, by kernel_rfl⟩
      | 1, _ => exact ⟨73, by kernel_rfl⟩
    obtain ⟨fs, hfs⟩ := hsw l.length h1
    exact Any.sort_SliceStable_tiny lays8 48 45 svT svE (by kernel_rfl) (by kernel_rfl) (by kernel_rfl) (by kernel_rfl) 25 (fun _ => by kernel_rfl) a l.length cap h1 fs hfs _ _ _ w
  by_cases hc0 : cap = 0
  · refine (tiny (by omega)).mono fun ev w' ⟨h1, os, h2⟩ => ⟨h1, .inl ⟨hc0, ?_⟩⟩
    rw [h2]; exact kept_grow
  · obtain ⟨gg, o, ha, hrow, hheld⟩ := hcap (by omega)
    have hgg : gg < w.heap.size := by
      obtain ⟨arr, e, h1, _⟩ := hrow
      exact (Array.getElem?_eq_some_iff.1 h1).1
    by_cases h1 : l.length ≤ 1
    · refine (tiny h1).mono fun ev w' ⟨h2, os, h3⟩ => ⟨h2, .inr ⟨by omega, gg, o, ha, ?_, ?_⟩⟩
      · rw [h3]; exact kept_grow
      · obtain ⟨arr, e, q1, q2, q3⟩ := hrow
        have : lsort45 l = l := lsort_tiny h1
        rw [this, h3]
        exact ⟨arr, e, by rw [heap_grow_old _ _ hgg]; exact q1, q2, q3⟩
    · have hH := holds_of hrow
      subst ha
      obtain ⟨hb1, hb2, hs1⟩ := hheld
      have hless : LessReadsK Try.prog 44 #[.pointer (some ⟨b, 0, none⟩)] encK 8 ltK45 gg o l.toArray.size w := by
        intro m os dk hs i j hi hj
        have e : sortWorldK encK 8 w gg o m dk os = putRowK encK 8 (grow (Sort.ahead w m) os) gg o dk := by
          unfold sortWorldK; rw [putRowK_grow _ _ (Sort.ahead w m) _ gg o _ hgg]
        have hHg : HoldsK encK 8 (grow (Sort.ahead w m) os) gg o l.toArray := holdsK_grow _ _ _ _ gg o l.toArray hgg (holdsK_ahead _ _ _ _ _ _ _ hH)
        have hsz : l.toArray.size = l.length := by simp
        refine lessC gg o cap b l.length _ (fun t => dk[t]!.f2.f1) ?_ (fun t ht => ?_) i j (by omega) (by omega) (by omega)
        · rw [e, cell?_putRowK_other _ _ _ gg o dk _ hb1, cell?_grow _ _ _ (show b < (Sort.ahead w m).heap.size from hb2)]
          exact hs1
        · rw [e]; exact ((holdsK_putRowK _ _ _ gg o l.toArray dk hHg hs).cell (i := t) (c := 3) (by omega) (by omega)).1
      have hS := sliceStable lays8 48 45 svT svE (by kernel_rfl) (by kernel_rfl) (by kernel_rfl) (by kernel_rfl) 25 (fun _ => by kernel_rfl) encK 8 (fun _ => rfl) (by kernel_rfl) (fun _ => by kernel_rfl)
        (fun x v hv => by simp [encK] at hv; rcases hv with rfl | rfl | rfl | rfl | rfl | rfl | rfl | rfl <;> rfl) ltK45 swoK 44 _
        (enters_of Try.func44 (by kernel_rfl) rfl) gg o cap l.toArray (by simp; omega) (by simp; omega) 80 (by rw [svK _ (by simp; omega)]; kernel_rfl) false
        (fun args W => run_callFunc_extern Try.func80 (by kernel_rfl) (by kernel_rfl) (by kernel_rfl) (e := Extern.ReflectliteSwapper.swap false) (by kernel_rfl) args W) w hless hH hgg
      have hz : l.toArray.size = l.length := by simp
      rw [hz] at hS
      refine hS.mono fun ev w' ⟨he, n, os, hw⟩ => ⟨he, .inr ⟨by omega, gg, o, rfl, ?_, ?_⟩⟩
      · rw [hw]
        refine ⟨rfl, rfl, rfl, by simp [putRowK], fun k hk hne => ?_⟩
        have hne : ¬ gg = k := fun e => hne e.symm
        rw [heap_grow_old _ _ (by simpa [putRowK] using hk)]
        simp [putRowK, putRow, mapBlock, Sort.ahead, Array.getElem?_modify, hne]
      · obtain ⟨arr, e, q1, q2, q3⟩ := hrow
        have hh : w'.heap[gg]? = some (.cells (putCells id o (flatK encK 8 (insertionSort ltK45 l.toArray 0 l.length)) arr) e (0, 0)) := by
          rw [hw, heap_grow_old _ _ (by simpa [putRowK] using hgg)]
          simp [putRowK, putRow, mapBlock, Sort.ahead, Array.getElem?_modify, q1, onCells]
        have hls : (lsort45 l).length = l.length := lsort_len l
        have q2 : o + cap * 8 ≤ arr.size := q2
        refine row_of hh (by simpa [putCells] using q2) (by rw [hls]; exact hle) fun j hj => ?_
        rw [hls] at hj
        have hsz2 : (insertionSort ltK45 l.toArray 0 l.length).size = l.length := by
          have := lsort_len l
          unfold lsort45 at this
          rwa [Array.length_toList] at this
        have hta : (lsort45 l).toArray = insertionSort ltK45 l.toArray 0 l.length := by
          show (insertionSort ltK45 l.toArray 0 l.length).toList.toArray = _
          simp
        rw [hta, ← get_flatK _ _ _ j (by rw [hsz2]; exact hj)]
        have hb : o + j < arr.size := by omega
        simp [putCells, hb, hsz2, hj]
theorem libOk0 : LibOk Try.prog kit 43 44 lib0 := ⟨enters_of Try.func43 (by kernel_rfl) rfl, rfl, lsort_len, fun t ht w a cap l b h1 h2 h3 => by
  obtain rfl := elemIs0 t ht
  exact libRun w a cap l b h1 h2 h3⟩
end Go.Proofs.Ytbbfkodckpfjcaa.M2

/- What the kit of this program owes to it. -/
namespace Go.Proofs.Ytbbfkodckpfjcaa.M2
open Go Go.Proofs.Ytbbfkodckpfjcaa.PK
set_option linter.unusedVariables false
set_option linter.unusedSimpArgs false
set_option linter.unusedVariables false
set_option linter.unusedSimpArgs false
theorem kitOk : KitOk Try.prog kit where
  len := by intro t x; cases t <;> rfl
  pos := by intro t; cases t <;> decide
  cell := by
    intro t x c hc
    cases t
    · exact noRow90_cell x c hc
    · exact noRow59_cell x c hc
    · exact noRow43_cell x c hc
    · exact noRow45_cell x c hc
    · exact noRow75_cell x c hc
    · exact noRow62_cell x c hc
    · exact noRow5_cell x c hc
    · exact noRow3_cell x c hc
    · exact noRow86_cell x c hc
  same := by
    intro t x y j t2 l2 h
    cases t
    · exact same90 x y j t2 l2 h
    · exact same59 x y j t2 l2 h
    · exact same43 x y j t2 l2 h
    · exact same45 x y j t2 l2 h
    · exact same75 x y j t2 l2 h
    · exact same62 x y j t2 l2 h
    · exact same5 x y j t2 l2 h
    · exact same3 x y j t2 l2 h
    · exact same86 x y j t2 l2 h
  mkOk := by
    intro t cs x h
    cases t
    · exact mkOk90 cs x h
    · exact mkOk59 cs x h
    · exact mkOk43 cs x h
    · exact mkOk45 cs x h
    · exact mkOk75 cs x h
    · exact mkOk62 cs x h
    · exact mkOk5 cs x h
    · exact mkOk3 cs x h
    · exact mkOk86 cs x h
  elem := by
    intro ts te h
    have h : (bif Nat.beq ts 22 then some Ty.t59 else bif Nat.beq ts 28 then some Ty.t62 else bif Nat.beq ts 36 then some Ty.t3 else bif Nat.beq ts 48 then some Ty.t45 else bif Nat.beq ts 57 then some Ty.t90 else bif Nat.beq ts 60 then some Ty.t75 else bif Nat.beq ts 68 then some Ty.t86 else bif Nat.beq ts 87 then some Ty.t5 else none) = some te := h
    cases h0 : Nat.beq ts 22 <;> rw [h0] at h <;> simp only [cond_true, cond_false] at h
    rotate_left
    · cases h; obtain rfl := Nat.eq_of_beq_eq_true h0
      exact ⟨59, Try.t59, _, by kernel_rfl, by kernel_rfl, by kernel_rfl, rfl, by kernel_rfl, by kernel_rfl, by decide, by kernel_rfl, fun j t2 l2 hj => by match j with | 0 => cases hj | 1 => cases hj | 2 => cases hj; rfl | j + 3 => cases hj⟩
    cases h1 : Nat.beq ts 28 <;> rw [h1] at h <;> simp only [cond_true, cond_false] at h
    rotate_left
    · cases h; obtain rfl := Nat.eq_of_beq_eq_true h1
      exact ⟨62, Try.t62, _, by kernel_rfl, by kernel_rfl, by kernel_rfl, rfl, by kernel_rfl, by kernel_rfl, by decide, by kernel_rfl, fun j t2 l2 hj => by match j with | 0 => cases hj | 1 => cases hj | 2 => cases hj; rfl | j + 3 => cases hj⟩
    cases h2 : Nat.beq ts 36 <;> rw [h2] at h <;> simp only [cond_true, cond_false] at h
    rotate_left
    · cases h; obtain rfl := Nat.eq_of_beq_eq_true h2
      exact ⟨3, Try.t3, _, by kernel_rfl, by kernel_rfl, by kernel_rfl, rfl, by kernel_rfl, by kernel_rfl, by decide, by kernel_rfl, fun j t2 l2 hj => by match j with | 0 => cases hj | j + 1 => cases hj⟩
    cases h3 : Nat.beq ts 48 <;> rw [h3] at h <;> simp only [cond_true, cond_false] at h
    rotate_left
    · cases h; obtain rfl := Nat.eq_of_beq_eq_true h3
      exact ⟨45, Try.t45, _, by kernel_rfl, by kernel_rfl, by kernel_rfl, rfl, by kernel_rfl, by kernel_rfl, by decide, by kernel_rfl, fun j t2 l2 hj => by match j with | 0 => cases hj | 1 => cases hj | 2 => cases hj | 3 => cases hj | 4 => cases hj | 5 => cases hj | 6 => cases hj | 7 => cases hj | j + 8 => cases hj⟩
    cases h4 : Nat.beq ts 57 <;> rw [h4] at h <;> simp only [cond_true, cond_false] at h
    rotate_left
    · cases h; obtain rfl := Nat.eq_of_beq_eq_true h4
      exact ⟨90, Try.t90, _, by kernel_rfl, by kernel_rfl, by kernel_rfl, rfl, by kernel_rfl, by kernel_rfl, by decide, by kernel_rfl, fun j t2 l2 hj => by match j with | 0 => cases hj | 1 => cases hj | j + 2 => cases hj⟩
    cases h5 : Nat.beq ts 60 <;> rw [h5] at h <;> simp only [cond_true, cond_false] at h
    rotate_left
    · cases h; obtain rfl := Nat.eq_of_beq_eq_true h5
      exact ⟨75, Try.t75, _, by kernel_rfl, by kernel_rfl, by kernel_rfl, rfl, by kernel_rfl, by kernel_rfl, by decide, by kernel_rfl, fun j t2 l2 hj => by match j with | 0 => cases hj | 1 => cases hj | j + 2 => cases hj⟩
    cases h6 : Nat.beq ts 68 <;> rw [h6] at h <;> simp only [cond_true, cond_false] at h
    rotate_left
    · cases h; obtain rfl := Nat.eq_of_beq_eq_true h6
      exact ⟨86, Try.t86, _, by kernel_rfl, by kernel_rfl, by kernel_rfl, rfl, by kernel_rfl, by kernel_rfl, by decide, by kernel_rfl, fun j t2 l2 hj => by match j with | 0 => cases hj | 1 => cases hj | 2 => cases hj | j + 3 => cases hj⟩
    cases h7 : Nat.beq ts 87 <;> rw [h7] at h <;> simp only [cond_true, cond_false] at h
    rotate_left
    · cases h; obtain rfl := Nat.eq_of_beq_eq_true h7
      exact ⟨5, Try.t5, _, by kernel_rfl, by kernel_rfl, by kernel_rfl, rfl, by kernel_rfl, by kernel_rfl, by decide, by kernel_rfl, fun j t2 l2 hj => by match j with | 0 => cases hj | j + 1 => cases hj⟩
    simp at h
  str := by
    intro t f h
    cases t
    · cases h
    · cases h
    · cases h
    · cases h
    · cases h
    · cases h
    · cases h; exact ⟨rfl, id, fun x => rfl, fun l => strId l⟩
    · cases h
    · cases h
  byt := by
    intro t f h
    cases t
    · cases h
    · cases h
    · cases h
    · cases h
    · cases h
    · cases h
    · cases h; exact ⟨rfl, rfl, bytesOf_ok⟩
    · cases h
    · cases h
  lib := by
    intro f g L h
    have h : (bif Nat.beq f 43 && Nat.beq g 44 then some lib0 else none) = some L := h
    cases h0 : (Nat.beq f 43 && Nat.beq g 44) <;> rw [h0] at h <;> simp only [cond_true, cond_false] at h
    rotate_left
    · cases h; rw [Bool.and_eq_true] at h0; obtain rfl := Nat.eq_of_beq_eq_true h0.1; obtain rfl := Nat.eq_of_beq_eq_true h0.2; exact libOk0
    cases h
  arr := by
    intro ta te h
    have h : (bif Nat.beq ta 98 then some Ty.t3 else none) = some te := h
    cases h0 : Nat.beq ta 98 <;> rw [h0] at h <;> simp only [cond_true, cond_false] at h
    rotate_left
    · cases h; obtain rfl := Nat.eq_of_beq_eq_true h0
      exact ⟨3, Try.t3, 4, by kernel_rfl, by kernel_rfl, rfl, rfl, Try.t98, (.agg #[.int .i64 0, .int .i64 0, .int .i64 0, .int .i64 0] : Value), by kernel_rfl, by kernel_rfl, by kernel_rfl, fun q r hq hr => by
        have hr : r < 1 := hr
        match q, r, hq, hr with | 0, 0, _, _ => show (_ : Option (AV Ty D)) = _; kernel_rfl | 1, 0, _, _ => show (_ : Option (AV Ty D)) = _; kernel_rfl | 2, 0, _, _ => show (_ : Option (AV Ty D)) = _; kernel_rfl | 3, 0, _, _ => show (_ : Option (AV Ty D)) = _; kernel_rfl | q + 4, _, hq, _ => omega | _, r + 1, _, hr => omega⟩
    simp at h
end Go.Proofs.Ytbbfkodckpfjcaa.M2

/- Small words of the plain runs: what is read of rows, steps from a tree to a plain Lean function, contexts. -/
namespace Go.Proofs.Ytbbfkodckpfjcaa.M2
open Go Go.Proofs.Ytbbfkodckpfjcaa.PK
set_option linter.unusedVariables false
noncomputable abbrev w64 (n : Int) : Int := IntKind.wrap .i64 n
noncomputable def seq (a b : ByteArray) : Bool := a.toList == b.toList
noncomputable def maxI (x y : Int) : Int := if y > x then y else x
noncomputable def minI (x y : Int) : Int := if y < x then y else x
noncomputable def itemsTo (r : Nat) : Code → Option (List Item)
  | .region id ops d => bif Nat.beq id r then some [.code (.region id ops d)] else none
  | .seq a b => match itemsTo r a with
    | some l => some (l ++ [.code b])
    | none => itemsTo r b
  | .cond _ a b => match itemsTo r a with
    | some l => some l
    | none => itemsTo r b
  | .block id c => match itemsTo r c with
    | some l => some (l ++ [.inBlock id])
    | none => none
  | .loop c => match itemsTo r c with
    | some l => some (l ++ [.inLoop c])
    | none => none
  | _ => none
noncomputable def body (fn : Func) : Code := match fn.body with
  | some c => c
  | none => .skip
noncomputable def td (fn : Func) (r : Nat) : List Item := (itemsTo r (body fn)).getD []
noncomputable abbrev E := emptyEnv (Ty := Ty) (D := D)
noncomputable abbrev H0 := emptyHeap (Ty := Ty) (D := D)
noncomputable abbrev R := Option (Res Ty D)
noncomputable abbrev goF (fn : Func) (ctx : Nat → Ctx Ty D) (sp : Nat → Option (Spec Ty)) (n : Nat) (en : Option (Spec Ty)) := goK Try.prog kit fn.ntmps ctx sp (finSp Try.prog kit fn n en)
noncomputable abbrev go1 (fn : Func) (ctx : Ctx Ty D) (sp : Nat → Option (Spec Ty)) (n : Nat) (en : Option (Spec Ty)) (rec : List Item → St Ty D → R) := go Try.prog kit ctx fn.ntmps sp (finSp Try.prog kit fn n en) rec 5000 true
section Steps
variable {α β γ : Type} {g : α → β}
theorem cd {p : Prop} [Decidable p] {x y : Option β} {a b : Option α} (hx : x = a.map g) (hy : y = b.map g) : (bif decide p then x else y) = (if p then a else b).map g := by
  subst hx hy; by_cases h : p <;> simp [h]
theorem nd {p : Prop} [Decidable p] {x y : Option β} {a b : Option α} (hx : x = a.map g) (hy : y = b.map g) : (bif !decide p then x else y) = (if p then b else a).map g := by
  subst hx hy; by_cases h : p <;> simp [h]
theorem sf {n : Int} {x : Option β} {a : Option α} (hx : x = a.map g) : (bif decide (n = n) then x else none) = a.map g := by
  subst hx; simp
theorem cb {c : Bool} {x y : Option β} {a b : Option α} (hx : x = a.map g) (hy : y = b.map g) : (bif c then x else y) = (if c = true then a else b).map g := by
  subst hx hy; cases c <;> rfl
theorem nb {c : Bool} {x y : Option β} {a b : Option α} (hx : x = a.map g) (hy : y = b.map g) : (bif !c then x else y) = (if c = true then b else a).map g := by
  subst hx hy; cases c <;> rfl
theorem bn {o : Option γ} {F : γ → Option β} {G : γ → Option α} (h : ∀ r, F r = (G r).map g) : o.bind F = (o.bind G).map g := by
  cases o with
  | none => rfl
  | some r => exact h r
theorem el {δ ε : Type} {F : δ → Option β} {F' : ε → Option β} {G : δ → Option α} {G' : ε → Option α} (h : ∀ r, F r = (G r).map g) (h' : ∀ r, F' r = (G' r).map g) (s : Sum δ ε) : Sum.elim F F' s = (Sum.elim G G' s).map g := by
  cases s with
  | inl r => exact h r
  | inr r => exact h' r
end Steps
section Gen
variable {Ty : Type} {D : Ty → Type} {P : Program} {K : Kit Ty D}
noncomputable abbrev XG (Ty : Type) (D : Ty → Type) := List (AV Ty D) → List (Blk Ty D) → (AV Ty D → List (Option (Blk Ty D)) → List (Blk Ty D) → Option (Res Ty D)) → Option (Res Ty D)
noncomputable def XOkG (P : Program) (K : Kit Ty D) (n : Nat) (x : XG Ty D) : Prop := ∀ ins bs κ res, x ins bs κ = some res → ∃ out outs news, Contract P K n ins bs out outs news ∧ κ out outs news = some res
noncomputable def cons (n : Nat) (x : XG Ty D) (c : Ctx Ty D) : Ctx Ty D := fun f ins bs κ => bif Nat.beq f n then x ins bs κ else c f ins bs κ
theorem CtxOk.nil : CtxOk P K (fun _ _ _ _ => none) := fun _ _ _ _ _ h => by cases h
theorem CtxOk.cons {n : Nat} {x : XG Ty D} {c : Ctx Ty D} (hx : XOkG P K n x) (hc : CtxOk P K c) : CtxOk P K (cons n x c) := by
  intro f ins bs κ res h
  have h : (bif Nat.beq f n then x ins bs κ else c f ins bs κ) = some res := h
  cases hf : Nat.beq f n with
  | true =>
    rw [hf, cond_true] at h
    have e := Nat.eq_of_beq_eq_true hf
    rw [e]
    exact hx _ _ _ _ h
  | false =>
    rw [hf, cond_false] at h
    exact hc _ _ _ _ _ h
theorem con_okG (hk : KitOk P K) (hmix : P.follows .mixedOrders = true) {f : Nat} {fn : Func} {ctx : Nat → Ctx Ty D} (hc : ∀ k, CtxOk P K (ctx k)) {sp : Nat → Option (Spec Ty)} {en : Option (Spec Ty)} {k : Nat} {ins : List (AV Ty D)} {bs : List (Blk Ty D)} {α : Type} {o : Option α} {e : α → Res Ty D} {n : Nat}
    (ht : goK P K fn.ntmps ctx sp (finSp P K fn n en) (k + 1) [.code (body fn)] (startSt ins bs) = o.map e) {r : α} (h : o = some r)
    (h1 : P.funcs[f]? = some fn) (h2 : (fn.name == "runtime.NumGoroutine") = false) (h3 : fn.body = some (body fn)) (h4 : Nat.ble bs.length 64 = true) (h5 : Nat.ble ins.length fn.ntmps = true) (hn : n = bs.length) (h6 : (e r).2.1.length = bs.length) :
    Contract P K f ins bs (e r).1 (e r).2.1 (e r).2.2 := by
  subst hn
  have e1 : callK P K ctx sp en fn (k + 1) ins bs = goK P K fn.ntmps ctx sp (finSp P K fn bs.length en) (k + 1) [.code (body fn)] (startSt ins bs) := by
    unfold callK
    rw [h3]
  exact contract_ok hk hmix hc h1 h2 h3 (Nat.le_of_ble_eq_true h4) (Nat.le_of_ble_eq_true h5) (e1.trans (ht.trans (by rw [h]; rfl))) h6
end Gen
noncomputable abbrev X := XG Ty D
noncomputable abbrev XOk (n : Nat) (x : X) : Prop := XOkG Try.prog kit n x
theorem mix : Try.prog.follows .mixedOrders = true := by kernel_rfl
end Go.Proofs.Ytbbfkodckpfjcaa.M2

/- Plain runs of functions: each is a plain Lean function, and keeps its contract. Written by a program of this session. -/
namespace Go.Proofs.Ytbbfkodckpfjcaa.M2
open Go Go.Proofs.Ytbbfkodckpfjcaa.PK
set_option linter.unusedVariables false
set_option linter.unusedSimpArgs false
set_option maxHeartbeats 4000000
/-! ### laws_szLeaf: function 51 -/
noncomputable def laws_szLeaf.sp : Nat → Option (Spec Ty) := fun r => none
noncomputable def laws_szLeaf.en : Option (Spec Ty) := none
noncomputable def laws_szLeaf.ctx (k : Nat) : Ctx Ty D := (fun _ _ _ _ => none)
noncomputable def laws_szLeaf.f (k : Nat) (a0_0 : Int) (a0_1 : ByteArray) (a1 : Int) : Option (Int) := (if (w64 (a1 - (a0_1.size : Int))) < 0 then (some ((-1))) else (some ((w64 (a1 - (a0_1.size : Int))))))
noncomputable def laws_szLeaf.e (r : Int) : Res Ty D := (.sc (.int .i64 r), [], [])
noncomputable abbrev laws_szLeaf.g (rec : List Item → St Ty D → R) (k : Nat) := go1 Try.f51 (laws_szLeaf.ctx k) laws_szLeaf.sp 0 laws_szLeaf.en rec
set_option maxRecDepth 100000 in
theorem laws_szLeaf.te (rec : List Item → St Ty D → R) (k : Nat) (a0_0 : Int) (a0_1 : ByteArray) (a1 : Int) : laws_szLeaf.g rec k [.code (body Try.f51)] (startSt [.ag [.sc (.int .i64 a0_0), .sc (.string a0_1)], .sc (.int .i64 a1)] []) =
  bif decide ((w64 (a1 - (a0_1.size : Int))) < 0) then some (laws_szLeaf.e ((-1))) else some (laws_szLeaf.e ((w64 (a1 - (a0_1.size : Int))))) := by kernel_rfl
set_option maxRecDepth 100000 in
theorem laws_szLeaf.oke (k : Nat) (a0_0 : Int) (a0_1 : ByteArray) (a1 : Int) : goF Try.f51 laws_szLeaf.ctx laws_szLeaf.sp 0 laws_szLeaf.en (k + 1) [.code (body Try.f51)] (startSt [.ag [.sc (.int .i64 a0_0), .sc (.string a0_1)], .sc (.int .i64 a1)] []) = (laws_szLeaf.f k a0_0 a0_1 a1).map laws_szLeaf.e := by
  rw [laws_szLeaf.f]; exact (laws_szLeaf.te _ k a0_0 a0_1 a1).trans (cd rfl rfl)
theorem laws_szLeaf.con (k : Nat) (a0_0 : Int) (a0_1 : ByteArray) (a1 : Int) (r) (h : laws_szLeaf.f k a0_0 a0_1 a1 = some r) : Contract Try.prog kit 51 [.ag [.sc (.int .i64 a0_0), .sc (.string a0_1)], .sc (.int .i64 a1)] [] (laws_szLeaf.e r).1 (laws_szLeaf.e r).2.1 (laws_szLeaf.e r).2.2 :=
  con_okG kitOk mix (fun k => CtxOk.nil) (laws_szLeaf.oke k a0_0 a0_1 a1) h (by kernel_rfl) (by kernel_rfl) (by kernel_rfl) rfl (by kernel_rfl) rfl rfl
noncomputable def laws_szLeaf.x (k : Nat) : X := fun ins bs κ => match ins, bs with
  | [.ag [.sc (.int .i64 a0_0), .sc (.string a0_1)], .sc (.int .i64 a1)], [] => (laws_szLeaf.f k a0_0 a0_1 a1).bind fun r => κ (laws_szLeaf.e r).1 (laws_szLeaf.e r).2.1 (laws_szLeaf.e r).2.2
  | _, _ => none
theorem laws_szLeaf.xok (k : Nat) : XOk 51 (laws_szLeaf.x k) := by
  intro ins bs κ res h
  unfold laws_szLeaf.x at h
  split at h
  · obtain ⟨r, hr, h⟩ := Option.bind_eq_some_iff.1 h
    exact ⟨_, _, _, laws_szLeaf.con k _ _ _ r hr, h⟩
  · cases h

/-! ### laws_szLeafS: function 36 -/
noncomputable def laws_szLeafS.sp : Nat → Option (Spec Ty) := fun r => bif Nat.beq r 5 then some ⟨[(0, .keep), (1, .keep), (5, .keep)], []⟩ else none
noncomputable def laws_szLeafS.en : Option (Spec Ty) := none
noncomputable def laws_szLeafS.s5 (x0 : List S90) (x1 : Int) (x5 : Int) : St Ty D := ⟨(Env.put (Env.put (Env.put E (some 0) (.row 0 .t90 x0)) (some 1) (.sc (.int .i64 x1))) (some 5) (.sc (.int .i64 x5))), H0, 1000⟩
noncomputable def laws_szLeafS.ctx (k : Nat) : Ctx Ty D := (cons 51 (laws_szLeaf.x k) (fun _ _ _ _ => none))
noncomputable def laws_szLeafS.c5 : Nat → (List S90) → Int → Int → Option (Int)
  | 0, _, _, _ => none
  | k + 1, x0, x1, x5 => (if x5 < (x0.length : Int) then (if 0 ≤ x5 then (if x5 < (x0.length : Int) then ((laws_szLeaf.f k ((rd_T90 x0 x5).f0) ((rd_T90 x0 x5).f1) x1).bind fun t1 => (if t1 < 0 then (some ((-1))) else (laws_szLeafS.c5 k x0 t1 (w64 (x5 + 1))))) else none) else none) else (some (x1)))
noncomputable def laws_szLeafS.f (k : Nat) (a0 : List S90) (a1 : Int) : Option (Int) := (if (w64 (a1 - (a0.length : Int))) < 0 then (some ((-1))) else (laws_szLeafS.c5 k a0 (w64 (a1 - (a0.length : Int))) 0))
noncomputable def laws_szLeafS.e (r : Int) : Res Ty D := (.sc (.int .i64 r), [], [])
noncomputable abbrev laws_szLeafS.g (rec : List Item → St Ty D → R) (k : Nat) := go1 Try.f36 (laws_szLeafS.ctx k) laws_szLeafS.sp 0 laws_szLeafS.en rec
set_option maxRecDepth 100000 in
theorem laws_szLeafS.t5 (rec : List Item → St Ty D → R) (k : Nat) (x0 : List S90) (x1 : Int) (x5 : Int) : laws_szLeafS.g rec k (td Try.f36 5) (laws_szLeafS.s5 x0 x1 x5) =
  bif decide (x5 < (x0.length : Int)) then bif decide (0 ≤ x5) then bif decide (x5 < (x0.length : Int)) then (laws_szLeaf.f k ((rd_T90 x0 x5).f0) ((rd_T90 x0 x5).f1) x1).bind fun t1 => bif decide (t1 < 0) then some (laws_szLeafS.e ((-1))) else rec (td Try.f36 5) (laws_szLeafS.s5 x0 t1 (w64 (x5 + 1))) else none else none else some (laws_szLeafS.e (x1)) := by kernel_rfl
set_option maxRecDepth 100000 in
theorem laws_szLeafS.te (rec : List Item → St Ty D → R) (k : Nat) (a0 : List S90) (a1 : Int) : laws_szLeafS.g rec k [.code (body Try.f36)] (startSt [.row 0 .t90 a0, .sc (.int .i64 a1)] []) =
  bif decide ((w64 (a1 - (a0.length : Int))) < 0) then some (laws_szLeafS.e ((-1))) else rec (td Try.f36 5) (laws_szLeafS.s5 a0 (w64 (a1 - (a0.length : Int))) 0) := by kernel_rfl
set_option maxRecDepth 100000 in
theorem laws_szLeafS.ok : ∀ k : Nat, (∀ (x0 : List S90) (x1 : Int) (x5 : Int), goF Try.f36 laws_szLeafS.ctx laws_szLeafS.sp 0 laws_szLeafS.en k (td Try.f36 5) (laws_szLeafS.s5 x0 x1 x5) = (laws_szLeafS.c5 k x0 x1 x5).map laws_szLeafS.e)
  | 0 => fun _ _ _ => rfl
  | k + 1 => by
    have ih := laws_szLeafS.ok k
    have i5 := ih
    intro x0 x1 x5; rw [laws_szLeafS.c5]; exact (laws_szLeafS.t5 _ k x0 x1 x5).trans (cd (cd (cd (bn (fun t1 => (cd rfl (i5 _ _ _)))) rfl) rfl) rfl)
set_option maxRecDepth 100000 in
theorem laws_szLeafS.oke (k : Nat) (a0 : List S90) (a1 : Int) : goF Try.f36 laws_szLeafS.ctx laws_szLeafS.sp 0 laws_szLeafS.en (k + 1) [.code (body Try.f36)] (startSt [.row 0 .t90 a0, .sc (.int .i64 a1)] []) = (laws_szLeafS.f k a0 a1).map laws_szLeafS.e := by
  have i5 := laws_szLeafS.ok k
  rw [laws_szLeafS.f]; exact (laws_szLeafS.te _ k a0 a1).trans (cd rfl (i5 _ _ _))
theorem laws_szLeafS.con (k : Nat) (a0 : List S90) (a1 : Int) (r) (h : laws_szLeafS.f k a0 a1 = some r) : Contract Try.prog kit 36 [.row 0 .t90 a0, .sc (.int .i64 a1)] [] (laws_szLeafS.e r).1 (laws_szLeafS.e r).2.1 (laws_szLeafS.e r).2.2 :=
  con_okG kitOk mix (fun k => (CtxOk.cons (laws_szLeaf.xok k) CtxOk.nil)) (laws_szLeafS.oke k a0 a1) h (by kernel_rfl) (by kernel_rfl) (by kernel_rfl) rfl (by kernel_rfl) rfl rfl
noncomputable def laws_szLeafS.x (k : Nat) : X := fun ins bs κ => match ins, bs with
  | [.row 0 .t90 a0, .sc (.int .i64 a1)], [] => (laws_szLeafS.f k a0 a1).bind fun r => κ (laws_szLeafS.e r).1 (laws_szLeafS.e r).2.1 (laws_szLeafS.e r).2.2
  | _, _ => none
theorem laws_szLeafS.xok (k : Nat) : XOk 36 (laws_szLeafS.x k) := by
  intro ins bs κ res h
  unfold laws_szLeafS.x at h
  split at h
  · obtain ⟨r, hr, h⟩ := Option.bind_eq_some_iff.1 h
    exact ⟨_, _, _, laws_szLeafS.con k _ _ r hr, h⟩
  · cases h

/-! ### laws_szBlock: function 26 -/
noncomputable def laws_szBlock.sp : Nat → Option (Spec Ty) := fun r => none
noncomputable def laws_szBlock.en : Option (Spec Ty) := none
noncomputable def laws_szBlock.ctx (k : Nat) : Ctx Ty D := (cons 36 (laws_szLeafS.x k) (fun _ _ _ _ => none))
noncomputable def laws_szBlock.f (k : Nat) (a0_0 : Bool) (a0_1 : Int) (a0_2 : List S90) (a1 : Int) : Option (Int) := ((laws_szLeafS.f k a0_2 a1).bind fun t1 => (if t1 < 0 then (some ((-1))) else (some (t1))))
noncomputable def laws_szBlock.e (r : Int) : Res Ty D := (.sc (.int .i64 r), [], [])
noncomputable abbrev laws_szBlock.g (rec : List Item → St Ty D → R) (k : Nat) := go1 Try.f26 (laws_szBlock.ctx k) laws_szBlock.sp 0 laws_szBlock.en rec
set_option maxRecDepth 100000 in
theorem laws_szBlock.te (rec : List Item → St Ty D → R) (k : Nat) (a0_0 : Bool) (a0_1 : Int) (a0_2 : List S90) (a1 : Int) : laws_szBlock.g rec k [.code (body Try.f26)] (startSt [.ag [.sc (.bool a0_0), .sc (.int .i64 a0_1), .row 0 .t90 a0_2], .sc (.int .i64 a1)] []) =
  (laws_szLeafS.f k a0_2 a1).bind fun t1 => bif decide (t1 < 0) then some (laws_szBlock.e ((-1))) else some (laws_szBlock.e (t1)) := by kernel_rfl
set_option maxRecDepth 100000 in
theorem laws_szBlock.oke (k : Nat) (a0_0 : Bool) (a0_1 : Int) (a0_2 : List S90) (a1 : Int) : goF Try.f26 laws_szBlock.ctx laws_szBlock.sp 0 laws_szBlock.en (k + 1) [.code (body Try.f26)] (startSt [.ag [.sc (.bool a0_0), .sc (.int .i64 a0_1), .row 0 .t90 a0_2], .sc (.int .i64 a1)] []) = (laws_szBlock.f k a0_0 a0_1 a0_2 a1).map laws_szBlock.e := by
  rw [laws_szBlock.f]; exact (laws_szBlock.te _ k a0_0 a0_1 a0_2 a1).trans (bn (fun t1 => (cd rfl rfl)))
theorem laws_szBlock.con (k : Nat) (a0_0 : Bool) (a0_1 : Int) (a0_2 : List S90) (a1 : Int) (r) (h : laws_szBlock.f k a0_0 a0_1 a0_2 a1 = some r) : Contract Try.prog kit 26 [.ag [.sc (.bool a0_0), .sc (.int .i64 a0_1), .row 0 .t90 a0_2], .sc (.int .i64 a1)] [] (laws_szBlock.e r).1 (laws_szBlock.e r).2.1 (laws_szBlock.e r).2.2 :=
  con_okG kitOk mix (fun k => (CtxOk.cons (laws_szLeafS.xok k) CtxOk.nil)) (laws_szBlock.oke k a0_0 a0_1 a0_2 a1) h (by kernel_rfl) (by kernel_rfl) (by kernel_rfl) rfl (by kernel_rfl) rfl rfl
noncomputable def laws_szBlock.x (k : Nat) : X := fun ins bs κ => match ins, bs with
  | [.ag [.sc (.bool a0_0), .sc (.int .i64 a0_1), .row 0 .t90 a0_2], .sc (.int .i64 a1)], [] => (laws_szBlock.f k a0_0 a0_1 a0_2 a1).bind fun r => κ (laws_szBlock.e r).1 (laws_szBlock.e r).2.1 (laws_szBlock.e r).2.2
  | _, _ => none
theorem laws_szBlock.xok (k : Nat) : XOk 26 (laws_szBlock.x k) := by
  intro ins bs κ res h
  unfold laws_szBlock.x at h
  split at h
  · obtain ⟨r, hr, h⟩ := Option.bind_eq_some_iff.1 h
    exact ⟨_, _, _, laws_szBlock.con k _ _ _ _ r hr, h⟩
  · cases h

/-! ### laws_szBlockS: function 17 -/
noncomputable def laws_szBlockS.sp : Nat → Option (Spec Ty) := fun r => bif Nat.beq r 5 then some ⟨[(0, .keep), (1, .keep), (5, .keep)], []⟩ else none
noncomputable def laws_szBlockS.en : Option (Spec Ty) := none
noncomputable def laws_szBlockS.s5 (x0 : List S59) (x1 : Int) (x5 : Int) : St Ty D := ⟨(Env.put (Env.put (Env.put E (some 0) (.row 0 .t59 x0)) (some 1) (.sc (.int .i64 x1))) (some 5) (.sc (.int .i64 x5))), H0, 1000⟩
noncomputable def laws_szBlockS.ctx (k : Nat) : Ctx Ty D := (cons 26 (laws_szBlock.x k) (fun _ _ _ _ => none))
noncomputable def laws_szBlockS.c5 : Nat → (List S59) → Int → Int → Option (Int)
  | 0, _, _, _ => none
  | k + 1, x0, x1, x5 => (if x5 < (x0.length : Int) then (if 0 ≤ x5 then (if x5 < (x0.length : Int) then ((laws_szBlock.f k ((rd_T59 x0 x5).f0) ((rd_T59 x0 x5).f1) ((rd_T59 x0 x5).f2) x1).bind fun t1 => (if t1 < 0 then (some ((-1))) else (laws_szBlockS.c5 k x0 t1 (w64 (x5 + 1))))) else none) else none) else (some (x1)))
noncomputable def laws_szBlockS.f (k : Nat) (a0 : List S59) (a1 : Int) : Option (Int) := (if (w64 (a1 - (a0.length : Int))) < 0 then (some ((-1))) else (laws_szBlockS.c5 k a0 (w64 (a1 - (a0.length : Int))) 0))
noncomputable def laws_szBlockS.e (r : Int) : Res Ty D := (.sc (.int .i64 r), [], [])
noncomputable abbrev laws_szBlockS.g (rec : List Item → St Ty D → R) (k : Nat) := go1 Try.f17 (laws_szBlockS.ctx k) laws_szBlockS.sp 0 laws_szBlockS.en rec
set_option maxRecDepth 100000 in
theorem laws_szBlockS.t5 (rec : List Item → St Ty D → R) (k : Nat) (x0 : List S59) (x1 : Int) (x5 : Int) : laws_szBlockS.g rec k (td Try.f17 5) (laws_szBlockS.s5 x0 x1 x5) =
  bif decide (x5 < (x0.length : Int)) then bif decide (0 ≤ x5) then bif decide (x5 < (x0.length : Int)) then (laws_szBlock.f k ((rd_T59 x0 x5).f0) ((rd_T59 x0 x5).f1) ((rd_T59 x0 x5).f2) x1).bind fun t1 => bif decide (t1 < 0) then some (laws_szBlockS.e ((-1))) else rec (td Try.f17 5) (laws_szBlockS.s5 x0 t1 (w64 (x5 + 1))) else none else none else some (laws_szBlockS.e (x1)) := by kernel_rfl
set_option maxRecDepth 100000 in
theorem laws_szBlockS.te (rec : List Item → St Ty D → R) (k : Nat) (a0 : List S59) (a1 : Int) : laws_szBlockS.g rec k [.code (body Try.f17)] (startSt [.row 0 .t59 a0, .sc (.int .i64 a1)] []) =
  bif decide ((w64 (a1 - (a0.length : Int))) < 0) then some (laws_szBlockS.e ((-1))) else rec (td Try.f17 5) (laws_szBlockS.s5 a0 (w64 (a1 - (a0.length : Int))) 0) := by kernel_rfl
set_option maxRecDepth 100000 in
theorem laws_szBlockS.ok : ∀ k : Nat, (∀ (x0 : List S59) (x1 : Int) (x5 : Int), goF Try.f17 laws_szBlockS.ctx laws_szBlockS.sp 0 laws_szBlockS.en k (td Try.f17 5) (laws_szBlockS.s5 x0 x1 x5) = (laws_szBlockS.c5 k x0 x1 x5).map laws_szBlockS.e)
  | 0 => fun _ _ _ => rfl
  | k + 1 => by
    have ih := laws_szBlockS.ok k
    have i5 := ih
    intro x0 x1 x5; rw [laws_szBlockS.c5]; exact (laws_szBlockS.t5 _ k x0 x1 x5).trans (cd (cd (cd (bn (fun t1 => (cd rfl (i5 _ _ _)))) rfl) rfl) rfl)
set_option maxRecDepth 100000 in
theorem laws_szBlockS.oke (k : Nat) (a0 : List S59) (a1 : Int) : goF Try.f17 laws_szBlockS.ctx laws_szBlockS.sp 0 laws_szBlockS.en (k + 1) [.code (body Try.f17)] (startSt [.row 0 .t59 a0, .sc (.int .i64 a1)] []) = (laws_szBlockS.f k a0 a1).map laws_szBlockS.e := by
  have i5 := laws_szBlockS.ok k
  rw [laws_szBlockS.f]; exact (laws_szBlockS.te _ k a0 a1).trans (cd rfl (i5 _ _ _))
theorem laws_szBlockS.con (k : Nat) (a0 : List S59) (a1 : Int) (r) (h : laws_szBlockS.f k a0 a1 = some r) : Contract Try.prog kit 17 [.row 0 .t59 a0, .sc (.int .i64 a1)] [] (laws_szBlockS.e r).1 (laws_szBlockS.e r).2.1 (laws_szBlockS.e r).2.2 :=
  con_okG kitOk mix (fun k => (CtxOk.cons (laws_szBlock.xok k) CtxOk.nil)) (laws_szBlockS.oke k a0 a1) h (by kernel_rfl) (by kernel_rfl) (by kernel_rfl) rfl (by kernel_rfl) rfl rfl
noncomputable def laws_szBlockS.x (k : Nat) : X := fun ins bs κ => match ins, bs with
  | [.row 0 .t59 a0, .sc (.int .i64 a1)], [] => (laws_szBlockS.f k a0 a1).bind fun r => κ (laws_szBlockS.e r).1 (laws_szBlockS.e r).2.1 (laws_szBlockS.e r).2.2
  | _, _ => none
theorem laws_szBlockS.xok (k : Nat) : XOk 17 (laws_szBlockS.x k) := by
  intro ins bs κ res h
  unfold laws_szBlockS.x at h
  split at h
  · obtain ⟨r, hr, h⟩ := Option.bind_eq_some_iff.1 h
    exact ⟨_, _, _, laws_szBlockS.con k _ _ r hr, h⟩
  · cases h

/-! ### laws_szFlash: function 6 -/
noncomputable def laws_szFlash.sp : Nat → Option (Spec Ty) := fun r => none
noncomputable def laws_szFlash.en : Option (Spec Ty) := none
noncomputable def laws_szFlash.ctx (k : Nat) : Ctx Ty D := (cons 17 (laws_szBlockS.x k) (fun _ _ _ _ => none))
noncomputable def laws_szFlash.f (k : Nat) (a0_0 : List S59) (a1 : Int) : Option (Int) := ((laws_szBlockS.f k a0_0 a1).bind fun t1 => (if t1 < 0 then (some ((-1))) else (some (t1))))
noncomputable def laws_szFlash.e (r : Int) : Res Ty D := (.sc (.int .i64 r), [], [])
noncomputable abbrev laws_szFlash.g (rec : List Item → St Ty D → R) (k : Nat) := go1 Try.f6 (laws_szFlash.ctx k) laws_szFlash.sp 0 laws_szFlash.en rec
set_option maxRecDepth 100000 in
theorem laws_szFlash.te (rec : List Item → St Ty D → R) (k : Nat) (a0_0 : List S59) (a1 : Int) : laws_szFlash.g rec k [.code (body Try.f6)] (startSt [.ag [.row 0 .t59 a0_0], .sc (.int .i64 a1)] []) =
  (laws_szBlockS.f k a0_0 a1).bind fun t1 => bif decide (t1 < 0) then some (laws_szFlash.e ((-1))) else some (laws_szFlash.e (t1)) := by kernel_rfl
set_option maxRecDepth 100000 in
theorem laws_szFlash.oke (k : Nat) (a0_0 : List S59) (a1 : Int) : goF Try.f6 laws_szFlash.ctx laws_szFlash.sp 0 laws_szFlash.en (k + 1) [.code (body Try.f6)] (startSt [.ag [.row 0 .t59 a0_0], .sc (.int .i64 a1)] []) = (laws_szFlash.f k a0_0 a1).map laws_szFlash.e := by
  rw [laws_szFlash.f]; exact (laws_szFlash.te _ k a0_0 a1).trans (bn (fun t1 => (cd rfl rfl)))
theorem laws_szFlash.con (k : Nat) (a0_0 : List S59) (a1 : Int) (r) (h : laws_szFlash.f k a0_0 a1 = some r) : Contract Try.prog kit 6 [.ag [.row 0 .t59 a0_0], .sc (.int .i64 a1)] [] (laws_szFlash.e r).1 (laws_szFlash.e r).2.1 (laws_szFlash.e r).2.2 :=
  con_okG kitOk mix (fun k => (CtxOk.cons (laws_szBlockS.xok k) CtxOk.nil)) (laws_szFlash.oke k a0_0 a1) h (by kernel_rfl) (by kernel_rfl) (by kernel_rfl) rfl (by kernel_rfl) rfl rfl
noncomputable def laws_szFlash.x (k : Nat) : X := fun ins bs κ => match ins, bs with
  | [.ag [.row 0 .t59 a0_0], .sc (.int .i64 a1)], [] => (laws_szFlash.f k a0_0 a1).bind fun r => κ (laws_szFlash.e r).1 (laws_szFlash.e r).2.1 (laws_szFlash.e r).2.2
  | _, _ => none
theorem laws_szFlash.xok (k : Nat) : XOk 6 (laws_szFlash.x k) := by
  intro ins bs κ res h
  unfold laws_szFlash.x at h
  split at h
  · obtain ⟨r, hr, h⟩ := Option.bind_eq_some_iff.1 h
    exact ⟨_, _, _, laws_szFlash.con k _ _ r hr, h⟩
  · cases h

/-! ### spec_l13Newest: function 18 -/
noncomputable def spec_l13Newest.sp : Nat → Option (Spec Ty) := fun r => bif Nat.beq r 2 then some ⟨[(0, .keep), (1, .keep), (4, .box [.keep, .keep, .keep, .keep, .keep, .keep, .keep, .keep]), (6, .keep)], []⟩ else none
noncomputable def spec_l13Newest.en : Option (Spec Ty) := none
noncomputable def spec_l13Newest.s2 (x0 : List S45) (x1 : Int) (x6 : Int) (h64_0 : Int) (h64_1 : Int) (h64_2 : Int) (h64_3 : Int) (h64_4 : Int) (h64_5 : Int) (h64_6 : Int) (h64_7 : ByteArray) : St Ty D := ⟨(Env.put (Env.put (Env.put (Env.put E (some 0) (.row 0 .t45 x0)) (some 1) (.sc (.int .i64 x1))) (some 4) (.pt 64 0 0)) (some 6) (.sc (.int .i64 x6))), Heap.put H0 [(64, some (.box [.sc (.int .i64 h64_0), .sc (.int .i64 h64_1), .sc (.int .i64 h64_2), .sc (.int .i64 h64_3), .sc (.int .i64 h64_4), .sc (.int .i64 h64_5), .sc (.int .i64 h64_6), .sc (.string h64_7)]))], 1000⟩
noncomputable def spec_l13Newest.ctx (k : Nat) : Ctx Ty D := (fun _ _ _ _ => none)
noncomputable def spec_l13Newest.c2 : Nat → (List S45) → Int → Int → Int → Int → Int → Int → Int → Int → Int → ByteArray → Option (Int × Int × Int × Int × Int × Int × Int × ByteArray × Bool)
  | 0, _, _, _, _, _, _, _, _, _, _, _ => none
  | k + 1, x0, x1, x6, h64_0, h64_1, h64_2, h64_3, h64_4, h64_5, h64_6, h64_7 => (if x6 ≥ 0 then (if 0 ≤ x6 then (if x6 < (x0.length : Int) then (if ((rd_T45 x0 x6).f2.f0) = 1 then (if 0 ≤ x6 then (if x6 < (x0.length : Int) then (if ((rd_T45 x0 x6).f2.f2) = x1 then (if 0 ≤ x6 then (if x6 < (x0.length : Int) then (some ((rd_T45 x0 x6).f0, (rd_T45 x0 x6).f1, (rd_T45 x0 x6).f2.f0, (rd_T45 x0 x6).f2.f1, (rd_T45 x0 x6).f2.f2, (rd_T45 x0 x6).f2.f3, (rd_T45 x0 x6).f2.f4, (rd_T45 x0 x6).f2.f5, true)) else none) else none) else (spec_l13Newest.c2 k x0 x1 (w64 (x6 - 1)) h64_0 h64_1 h64_2 h64_3 h64_4 h64_5 h64_6 h64_7)) else none) else none) else (spec_l13Newest.c2 k x0 x1 (w64 (x6 - 1)) h64_0 h64_1 h64_2 h64_3 h64_4 h64_5 h64_6 h64_7)) else none) else none) else (some (0, 0, 0, 0, 0, 0, 0, (⟨#[]⟩ : ByteArray), false)))
noncomputable def spec_l13Newest.f (k : Nat) (a0 : List S45) (a1 : Int) : Option (Int × Int × Int × Int × Int × Int × Int × ByteArray × Bool) := (spec_l13Newest.c2 k a0 a1 (w64 ((a0.length : Int) - 1)) 0 0 0 0 0 0 0 (⟨#[]⟩ : ByteArray))
noncomputable def spec_l13Newest.e (r : Int × Int × Int × Int × Int × Int × Int × ByteArray × Bool) : Res Ty D := (.tu [.ag [.sc (.int .i64 r.1), .sc (.int .i64 r.2.1), .sc (.int .i64 r.2.2.1), .sc (.int .i64 r.2.2.2.1), .sc (.int .i64 r.2.2.2.2.1), .sc (.int .i64 r.2.2.2.2.2.1), .sc (.int .i64 r.2.2.2.2.2.2.1), .sc (.string r.2.2.2.2.2.2.2.1)], .sc (.bool r.2.2.2.2.2.2.2.2)], [], [])
noncomputable abbrev spec_l13Newest.g (rec : List Item → St Ty D → R) (k : Nat) := go1 Try.f18 (spec_l13Newest.ctx k) spec_l13Newest.sp 0 spec_l13Newest.en rec
set_option maxRecDepth 100000 in
theorem spec_l13Newest.t2 (rec : List Item → St Ty D → R) (k : Nat) (x0 : List S45) (x1 : Int) (x6 : Int) (h64_0 : Int) (h64_1 : Int) (h64_2 : Int) (h64_3 : Int) (h64_4 : Int) (h64_5 : Int) (h64_6 : Int) (h64_7 : ByteArray) : spec_l13Newest.g rec k (td Try.f18 2) (spec_l13Newest.s2 x0 x1 x6 h64_0 h64_1 h64_2 h64_3 h64_4 h64_5 h64_6 h64_7) =
  bif decide (x6 ≥ 0) then bif decide (0 ≤ x6) then bif decide (x6 < (x0.length : Int)) then bif decide (((rd_T45 x0 x6).f2.f0) = 1) then bif decide (0 ≤ x6) then bif decide (x6 < (x0.length : Int)) then bif decide (((rd_T45 x0 x6).f2.f2) = x1) then bif decide (0 ≤ x6) then bif decide (x6 < (x0.length : Int)) then some (spec_l13Newest.e ((rd_T45 x0 x6).f0, (rd_T45 x0 x6).f1, (rd_T45 x0 x6).f2.f0, (rd_T45 x0 x6).f2.f1, (rd_T45 x0 x6).f2.f2, (rd_T45 x0 x6).f2.f3, (rd_T45 x0 x6).f2.f4, (rd_T45 x0 x6).f2.f5, true)) else none else none else rec (td Try.f18 2) (spec_l13Newest.s2 x0 x1 (w64 (x6 - 1)) h64_0 h64_1 h64_2 h64_3 h64_4 h64_5 h64_6 h64_7) else none else none else rec (td Try.f18 2) (spec_l13Newest.s2 x0 x1 (w64 (x6 - 1)) h64_0 h64_1 h64_2 h64_3 h64_4 h64_5 h64_6 h64_7) else none else none else some (spec_l13Newest.e (0, 0, 0, 0, 0, 0, 0, (⟨#[]⟩ : ByteArray), false)) := by kernel_rfl
set_option maxRecDepth 100000 in
theorem spec_l13Newest.te (rec : List Item → St Ty D → R) (k : Nat) (a0 : List S45) (a1 : Int) : spec_l13Newest.g rec k [.code (body Try.f18)] (startSt [.row 0 .t45 a0, .sc (.int .i64 a1)] []) =
  rec (td Try.f18 2) (spec_l13Newest.s2 a0 a1 (w64 ((a0.length : Int) - 1)) 0 0 0 0 0 0 0 (⟨#[]⟩ : ByteArray)) := by kernel_rfl
set_option maxRecDepth 100000 in
theorem spec_l13Newest.ok : ∀ k : Nat, (∀ (x0 : List S45) (x1 : Int) (x6 : Int) (h64_0 : Int) (h64_1 : Int) (h64_2 : Int) (h64_3 : Int) (h64_4 : Int) (h64_5 : Int) (h64_6 : Int) (h64_7 : ByteArray), goF Try.f18 spec_l13Newest.ctx spec_l13Newest.sp 0 spec_l13Newest.en k (td Try.f18 2) (spec_l13Newest.s2 x0 x1 x6 h64_0 h64_1 h64_2 h64_3 h64_4 h64_5 h64_6 h64_7) = (spec_l13Newest.c2 k x0 x1 x6 h64_0 h64_1 h64_2 h64_3 h64_4 h64_5 h64_6 h64_7).map spec_l13Newest.e)
  | 0 => fun _ _ _ _ _ _ _ _ _ _ _ => rfl
  | k + 1 => by
    have ih := spec_l13Newest.ok k
    have i2 := ih
    intro x0 x1 x6 h64_0 h64_1 h64_2 h64_3 h64_4 h64_5 h64_6 h64_7; rw [spec_l13Newest.c2]; exact (spec_l13Newest.t2 _ k x0 x1 x6 h64_0 h64_1 h64_2 h64_3 h64_4 h64_5 h64_6 h64_7).trans (cd (cd (cd (cd (cd (cd (cd (cd (cd rfl rfl) rfl) (i2 _ _ _ _ _ _ _ _ _ _ _)) rfl) rfl) (i2 _ _ _ _ _ _ _ _ _ _ _)) rfl) rfl) rfl)
set_option maxRecDepth 100000 in
theorem spec_l13Newest.oke (k : Nat) (a0 : List S45) (a1 : Int) : goF Try.f18 spec_l13Newest.ctx spec_l13Newest.sp 0 spec_l13Newest.en (k + 1) [.code (body Try.f18)] (startSt [.row 0 .t45 a0, .sc (.int .i64 a1)] []) = (spec_l13Newest.f k a0 a1).map spec_l13Newest.e := by
  have i2 := spec_l13Newest.ok k
  rw [spec_l13Newest.f]; exact (spec_l13Newest.te _ k a0 a1).trans (i2 _ _ _ _ _ _ _ _ _ _ _)
theorem spec_l13Newest.con (k : Nat) (a0 : List S45) (a1 : Int) (r) (h : spec_l13Newest.f k a0 a1 = some r) : Contract Try.prog kit 18 [.row 0 .t45 a0, .sc (.int .i64 a1)] [] (spec_l13Newest.e r).1 (spec_l13Newest.e r).2.1 (spec_l13Newest.e r).2.2 :=
  con_okG kitOk mix (fun k => CtxOk.nil) (spec_l13Newest.oke k a0 a1) h (by kernel_rfl) (by kernel_rfl) (by kernel_rfl) rfl (by kernel_rfl) rfl rfl
noncomputable def spec_l13Newest.x (k : Nat) : X := fun ins bs κ => match ins, bs with
  | [.row 0 .t45 a0, .sc (.int .i64 a1)], [] => (spec_l13Newest.f k a0 a1).bind fun r => κ (spec_l13Newest.e r).1 (spec_l13Newest.e r).2.1 (spec_l13Newest.e r).2.2
  | _, _ => none
theorem spec_l13Newest.xok (k : Nat) : XOk 18 (spec_l13Newest.x k) := by
  intro ins bs κ res h
  unfold spec_l13Newest.x at h
  split at h
  · obtain ⟨r, hr, h⟩ := Option.bind_eq_some_iff.1 h
    exact ⟨_, _, _, spec_l13Newest.con k _ _ r hr, h⟩
  · cases h

/-! ### spec_l01In: function 37 -/
noncomputable def spec_l01In.sp : Nat → Option (Spec Ty) := fun r => none
noncomputable def spec_l01In.en : Option (Spec Ty) := none
noncomputable def spec_l01In.ctx (k : Nat) : Ctx Ty D := (fun _ _ _ _ => none)
noncomputable def spec_l01In.f (k : Nat) (a0 : Int) (a1 : Int) (a2 : Int) : Option (Bool) := (if a0 ≥ a1 then (some ((decide (a0 ≤ a2)))) else (some (false)))
noncomputable def spec_l01In.e (r : Bool) : Res Ty D := (.sc (.bool r), [], [])
noncomputable abbrev spec_l01In.g (rec : List Item → St Ty D → R) (k : Nat) := go1 Try.f37 (spec_l01In.ctx k) spec_l01In.sp 0 spec_l01In.en rec
set_option maxRecDepth 100000 in
theorem spec_l01In.te (rec : List Item → St Ty D → R) (k : Nat) (a0 : Int) (a1 : Int) (a2 : Int) : spec_l01In.g rec k [.code (body Try.f37)] (startSt [.sc (.int .i64 a0), .sc (.int .i64 a1), .sc (.int .i64 a2)] []) =
  bif decide (a0 ≥ a1) then some (spec_l01In.e ((decide (a0 ≤ a2)))) else some (spec_l01In.e (false)) := by kernel_rfl
set_option maxRecDepth 100000 in
theorem spec_l01In.oke (k : Nat) (a0 : Int) (a1 : Int) (a2 : Int) : goF Try.f37 spec_l01In.ctx spec_l01In.sp 0 spec_l01In.en (k + 1) [.code (body Try.f37)] (startSt [.sc (.int .i64 a0), .sc (.int .i64 a1), .sc (.int .i64 a2)] []) = (spec_l01In.f k a0 a1 a2).map spec_l01In.e := by
  rw [spec_l01In.f]; exact (spec_l01In.te _ k a0 a1 a2).trans (cd rfl rfl)
theorem spec_l01In.con (k : Nat) (a0 : Int) (a1 : Int) (a2 : Int) (r) (h : spec_l01In.f k a0 a1 a2 = some r) : Contract Try.prog kit 37 [.sc (.int .i64 a0), .sc (.int .i64 a1), .sc (.int .i64 a2)] [] (spec_l01In.e r).1 (spec_l01In.e r).2.1 (spec_l01In.e r).2.2 :=
  con_okG kitOk mix (fun k => CtxOk.nil) (spec_l01In.oke k a0 a1 a2) h (by kernel_rfl) (by kernel_rfl) (by kernel_rfl) rfl (by kernel_rfl) rfl rfl
noncomputable def spec_l01In.x (k : Nat) : X := fun ins bs κ => match ins, bs with
  | [.sc (.int .i64 a0), .sc (.int .i64 a1), .sc (.int .i64 a2)], [] => (spec_l01In.f k a0 a1 a2).bind fun r => κ (spec_l01In.e r).1 (spec_l01In.e r).2.1 (spec_l01In.e r).2.2
  | _, _ => none
theorem spec_l01In.xok (k : Nat) : XOk 37 (spec_l01In.x k) := by
  intro ins bs κ res h
  unfold spec_l01In.x at h
  split at h
  · obtain ⟨r, hr, h⟩ := Option.bind_eq_some_iff.1 h
    exact ⟨_, _, _, spec_l01In.con k _ _ _ r hr, h⟩
  · cases h

/-! ### spec_ReadLeaf: function 27 -/
noncomputable def spec_ReadLeaf.sp : Nat → Option (Spec Ty) := fun r => none
noncomputable def spec_ReadLeaf.en : Option (Spec Ty) := none
noncomputable def spec_ReadLeaf.ctx (k : Nat) : Ctx Ty D := (cons 37 (spec_l01In.x k) (fun _ _ _ _ => none))
noncomputable def spec_ReadLeaf.f (k : Nat) (a0_0 : List S62) (a1 : Int) (a2 : Int) : Option (ByteArray × Bool) := ((spec_l01In.f k a1 0 (w64 ((a0_0.length : Int) - 1))).bind fun t1 => (if t1 = true then (if 0 ≤ a1 then (if a1 < (a0_0.length : Int) then ((spec_l01In.f k a2 0 (w64 ((((rd_T62 a0_0 a1).f2).length : Int) - 1))).bind fun t2 => (if t2 = true then (if 0 ≤ a1 then (if a1 < (a0_0.length : Int) then (if 0 ≤ a2 then (if a2 < (((rd_T62 a0_0 a1).f2).length : Int) then (if ((rd_T75 ((rd_T62 a0_0 a1).f2) a2).f0) = 1 then (if 0 ≤ a1 then (if a1 < (a0_0.length : Int) then (if 0 ≤ a2 then (if a2 < (((rd_T62 a0_0 a1).f2).length : Int) then (some ((rd_T75 ((rd_T62 a0_0 a1).f2) a2).f1, true)) else none) else none) else none) else none) else (some ((⟨#[]⟩ : ByteArray), false))) else none) else none) else none) else none) else (some ((⟨#[]⟩ : ByteArray), false)))) else none) else none) else (some ((⟨#[]⟩ : ByteArray), false))))
noncomputable def spec_ReadLeaf.e (r : ByteArray × Bool) : Res Ty D := (.tu [.sc (.string r.1), .sc (.bool r.2)], [], [])
noncomputable abbrev spec_ReadLeaf.g (rec : List Item → St Ty D → R) (k : Nat) := go1 Try.f27 (spec_ReadLeaf.ctx k) spec_ReadLeaf.sp 0 spec_ReadLeaf.en rec
set_option maxRecDepth 100000 in
theorem spec_ReadLeaf.te (rec : List Item → St Ty D → R) (k : Nat) (a0_0 : List S62) (a1 : Int) (a2 : Int) : spec_ReadLeaf.g rec k [.code (body Try.f27)] (startSt [.ag [.row 0 .t62 a0_0], .sc (.int .i64 a1), .sc (.int .i64 a2)] []) =
  (spec_l01In.f k a1 0 (w64 ((a0_0.length : Int) - 1))).bind fun t1 => bif !t1 then some (spec_ReadLeaf.e ((⟨#[]⟩ : ByteArray), false)) else bif decide (0 ≤ a1) then bif decide (a1 < (a0_0.length : Int)) then (spec_l01In.f k a2 0 (w64 ((((rd_T62 a0_0 a1).f2).length : Int) - 1))).bind fun t2 => bif !t2 then some (spec_ReadLeaf.e ((⟨#[]⟩ : ByteArray), false)) else bif decide (0 ≤ a1) then bif decide (a1 < (a0_0.length : Int)) then bif decide (0 ≤ a2) then bif decide (a2 < (((rd_T62 a0_0 a1).f2).length : Int)) then bif !decide (((rd_T75 ((rd_T62 a0_0 a1).f2) a2).f0) = 1) then some (spec_ReadLeaf.e ((⟨#[]⟩ : ByteArray), false)) else bif decide (0 ≤ a1) then bif decide (a1 < (a0_0.length : Int)) then bif decide (0 ≤ a2) then bif decide (a2 < (((rd_T62 a0_0 a1).f2).length : Int)) then some (spec_ReadLeaf.e ((rd_T75 ((rd_T62 a0_0 a1).f2) a2).f1, true)) else none else none else none else none else none else none else none else none else none else none := by kernel_rfl
set_option maxRecDepth 100000 in
theorem spec_ReadLeaf.oke (k : Nat) (a0_0 : List S62) (a1 : Int) (a2 : Int) : goF Try.f27 spec_ReadLeaf.ctx spec_ReadLeaf.sp 0 spec_ReadLeaf.en (k + 1) [.code (body Try.f27)] (startSt [.ag [.row 0 .t62 a0_0], .sc (.int .i64 a1), .sc (.int .i64 a2)] []) = (spec_ReadLeaf.f k a0_0 a1 a2).map spec_ReadLeaf.e := by
  rw [spec_ReadLeaf.f]; exact (spec_ReadLeaf.te _ k a0_0 a1 a2).trans (bn (fun t1 => (nb rfl (cd (cd (bn (fun t2 => (nb rfl (cd (cd (cd (cd (nd rfl (cd (cd (cd (cd rfl rfl) rfl) rfl) rfl)) rfl) rfl) rfl) rfl)))) rfl) rfl))))
theorem spec_ReadLeaf.con (k : Nat) (a0_0 : List S62) (a1 : Int) (a2 : Int) (r) (h : spec_ReadLeaf.f k a0_0 a1 a2 = some r) : Contract Try.prog kit 27 [.ag [.row 0 .t62 a0_0], .sc (.int .i64 a1), .sc (.int .i64 a2)] [] (spec_ReadLeaf.e r).1 (spec_ReadLeaf.e r).2.1 (spec_ReadLeaf.e r).2.2 :=
  con_okG kitOk mix (fun k => (CtxOk.cons (spec_l01In.xok k) CtxOk.nil)) (spec_ReadLeaf.oke k a0_0 a1 a2) h (by kernel_rfl) (by kernel_rfl) (by kernel_rfl) rfl (by kernel_rfl) rfl rfl
noncomputable def spec_ReadLeaf.x (k : Nat) : X := fun ins bs κ => match ins, bs with
  | [.ag [.row 0 .t62 a0_0], .sc (.int .i64 a1), .sc (.int .i64 a2)], [] => (spec_ReadLeaf.f k a0_0 a1 a2).bind fun r => κ (spec_ReadLeaf.e r).1 (spec_ReadLeaf.e r).2.1 (spec_ReadLeaf.e r).2.2
  | _, _ => none
theorem spec_ReadLeaf.xok (k : Nat) : XOk 27 (spec_ReadLeaf.x k) := by
  intro ins bs κ res h
  unfold spec_ReadLeaf.x at h
  split at h
  · obtain ⟨r, hr, h⟩ := Option.bind_eq_some_iff.1 h
    exact ⟨_, _, _, spec_ReadLeaf.con k _ _ _ r hr, h⟩
  · cases h

/-! ### spec_l02Four: function 52 -/
noncomputable def spec_l02Four.sp : Nat → Option (Spec Ty) := fun r => none
noncomputable def spec_l02Four.en : Option (Spec Ty) := none
noncomputable def spec_l02Four.ctx (k : Nat) : Ctx Ty D := (fun _ _ _ _ => none)
noncomputable def spec_l02Four.f (k : Nat) (a0 : Int) : Option (ByteArray) := (some ((strOfNums ([(Go.IntKind.wrap .u8 ((Int.fdiv a0 16777216))), (Go.IntKind.wrap .u8 ((Int.fdiv a0 65536))), (Go.IntKind.wrap .u8 ((Int.fdiv a0 256))), (Go.IntKind.wrap .u8 (a0))] : List Int))))
noncomputable def spec_l02Four.e (r : ByteArray) : Res Ty D := (.sc (.string r), [], [])
noncomputable abbrev spec_l02Four.g (rec : List Item → St Ty D → R) (k : Nat) := go1 Try.f52 (spec_l02Four.ctx k) spec_l02Four.sp 0 spec_l02Four.en rec
set_option maxRecDepth 100000 in
theorem spec_l02Four.te (rec : List Item → St Ty D → R) (k : Nat) (a0 : Int) : spec_l02Four.g rec k [.code (body Try.f52)] (startSt [.sc (.int .u32 a0)] []) =
  some (spec_l02Four.e ((strOfNums ([(Go.IntKind.wrap .u8 ((Int.fdiv a0 16777216))), (Go.IntKind.wrap .u8 ((Int.fdiv a0 65536))), (Go.IntKind.wrap .u8 ((Int.fdiv a0 256))), (Go.IntKind.wrap .u8 (a0))] : List Int)))) := by kernel_rfl
set_option maxRecDepth 100000 in
theorem spec_l02Four.oke (k : Nat) (a0 : Int) : goF Try.f52 spec_l02Four.ctx spec_l02Four.sp 0 spec_l02Four.en (k + 1) [.code (body Try.f52)] (startSt [.sc (.int .u32 a0)] []) = (spec_l02Four.f k a0).map spec_l02Four.e := by
  rw [spec_l02Four.f]; exact (spec_l02Four.te _ k a0).trans rfl
theorem spec_l02Four.con (k : Nat) (a0 : Int) (r) (h : spec_l02Four.f k a0 = some r) : Contract Try.prog kit 52 [.sc (.int .u32 a0)] [] (spec_l02Four.e r).1 (spec_l02Four.e r).2.1 (spec_l02Four.e r).2.2 :=
  con_okG kitOk mix (fun k => CtxOk.nil) (spec_l02Four.oke k a0) h (by kernel_rfl) (by kernel_rfl) (by kernel_rfl) rfl (by kernel_rfl) rfl rfl
noncomputable def spec_l02Four.x (k : Nat) : X := fun ins bs κ => match ins, bs with
  | [.sc (.int .u32 a0)], [] => (spec_l02Four.f k a0).bind fun r => κ (spec_l02Four.e r).1 (spec_l02Four.e r).2.1 (spec_l02Four.e r).2.2
  | _, _ => none
theorem spec_l02Four.xok (k : Nat) : XOk 52 (spec_l02Four.x k) := by
  intro ins bs κ res h
  unfold spec_l02Four.x at h
  split at h
  · obtain ⟨r, hr, h⟩ := Option.bind_eq_some_iff.1 h
    exact ⟨_, _, _, spec_l02Four.con k _ r hr, h⟩
  · cases h

/-! ### spec_SumMore: function 70 -/
noncomputable def spec_SumMore.sp : Nat → Option (Spec Ty) := fun r => bif Nat.beq r 2 then some ⟨[(0, .keep), (1, .keep), (5, .keep)], []⟩ else bif Nat.beq r 6 then some ⟨[(0, .keep), (1, .keep), (5, .keep), (6, .keep)], []⟩ else none
noncomputable def spec_SumMore.en : Option (Spec Ty) := none
noncomputable def spec_SumMore.s2 (x0 : Int) (x1 : ByteArray) (x5 : Int) : St Ty D := ⟨(Env.put (Env.put (Env.put E (some 0) (.sc (.int .u32 x0))) (some 1) (.sc (.string x1))) (some 5) (.sc (.int .i64 x5))), H0, 1000⟩
noncomputable def spec_SumMore.s6 (x0 : Int) (x1 : ByteArray) (x5 : Int) (x6 : Int) : St Ty D := ⟨(Env.put (Env.put (Env.put (Env.put E (some 0) (.sc (.int .u32 x0))) (some 1) (.sc (.string x1))) (some 5) (.sc (.int .i64 x5))) (some 6) (.sc (.int .i64 x6))), H0, 1000⟩
noncomputable def spec_SumMore.ctx (k : Nat) : Ctx Ty D := (fun _ _ _ _ => none)
mutual
noncomputable def spec_SumMore.c2 : Nat → Int → ByteArray → Int → Option (Int)
  | 0, _, _, _ => none
  | k + 1, x0, x1, x5 => (if x5 < (x1.size : Int) then (if 0 ≤ x5 then (if x5 < (x1.size : Int) then (spec_SumMore.c6 k (Go.bits .xor .u32 x0 (Go.IntKind.wrap .u32 ((bt x1 x5)))) x1 x5 0) else none) else none) else (some (x0)))
noncomputable def spec_SumMore.c6 : Nat → Int → ByteArray → Int → Int → Option (Int)
  | 0, _, _, _, _ => none
  | k + 1, x0, x1, x5, x6 => (if x6 < 8 then (if (Int.tmod x0 2) = 1 then (spec_SumMore.c6 k (Go.bits .xor .u32 (Go.IntKind.wrap .u32 (Int.tdiv x0 2)) 3558460437) x1 x5 (w64 (x6 + 1))) else (spec_SumMore.c6 k (Go.IntKind.wrap .u32 (Int.tdiv x0 2)) x1 x5 (w64 (x6 + 1)))) else (spec_SumMore.c2 k x0 x1 (w64 (x5 + 1))))
end
noncomputable def spec_SumMore.f (k : Nat) (a0 : Int) (a1 : ByteArray) : Option (Int) := (spec_SumMore.c2 k a0 a1 0)
noncomputable def spec_SumMore.e (r : Int) : Res Ty D := (.sc (.int .u32 r), [], [])
noncomputable abbrev spec_SumMore.g (rec : List Item → St Ty D → R) (k : Nat) := go1 Try.f70 (spec_SumMore.ctx k) spec_SumMore.sp 0 spec_SumMore.en rec
set_option maxRecDepth 100000 in
theorem spec_SumMore.t2 (rec : List Item → St Ty D → R) (k : Nat) (x0 : Int) (x1 : ByteArray) (x5 : Int) : spec_SumMore.g rec k (td Try.f70 2) (spec_SumMore.s2 x0 x1 x5) =
  bif decide (x5 < (x1.size : Int)) then bif decide (0 ≤ x5) then bif decide (x5 < (x1.size : Int)) then rec (td Try.f70 6) (spec_SumMore.s6 (Go.bits .xor .u32 x0 (Go.IntKind.wrap .u32 ((bt x1 x5)))) x1 x5 0) else none else none else some (spec_SumMore.e (x0)) := by kernel_rfl
set_option maxRecDepth 100000 in
theorem spec_SumMore.t6 (rec : List Item → St Ty D → R) (k : Nat) (x0 : Int) (x1 : ByteArray) (x5 : Int) (x6 : Int) : spec_SumMore.g rec k (td Try.f70 6) (spec_SumMore.s6 x0 x1 x5 x6) =
  bif decide (x6 < 8) then bif decide ((Int.tmod x0 2) = 1) then rec (td Try.f70 6) (spec_SumMore.s6 (Go.bits .xor .u32 (Go.IntKind.wrap .u32 (Int.tdiv x0 2)) 3558460437) x1 x5 (w64 (x6 + 1))) else rec (td Try.f70 6) (spec_SumMore.s6 (Go.IntKind.wrap .u32 (Int.tdiv x0 2)) x1 x5 (w64 (x6 + 1))) else rec (td Try.f70 2) (spec_SumMore.s2 x0 x1 (w64 (x5 + 1))) := by kernel_rfl
set_option maxRecDepth 100000 in
theorem spec_SumMore.te (rec : List Item → St Ty D → R) (k : Nat) (a0 : Int) (a1 : ByteArray) : spec_SumMore.g rec k [.code (body Try.f70)] (startSt [.sc (.int .u32 a0), .sc (.string a1)] []) =
  rec (td Try.f70 2) (spec_SumMore.s2 a0 a1 0) := by kernel_rfl
set_option maxRecDepth 100000 in
theorem spec_SumMore.ok : ∀ k : Nat, (∀ (x0 : Int) (x1 : ByteArray) (x5 : Int), goF Try.f70 spec_SumMore.ctx spec_SumMore.sp 0 spec_SumMore.en k (td Try.f70 2) (spec_SumMore.s2 x0 x1 x5) = (spec_SumMore.c2 k x0 x1 x5).map spec_SumMore.e) ∧ (∀ (x0 : Int) (x1 : ByteArray) (x5 : Int) (x6 : Int), goF Try.f70 spec_SumMore.ctx spec_SumMore.sp 0 spec_SumMore.en k (td Try.f70 6) (spec_SumMore.s6 x0 x1 x5 x6) = (spec_SumMore.c6 k x0 x1 x5 x6).map spec_SumMore.e)
  | 0 => ⟨fun _ _ _ => rfl, fun _ _ _ _ => rfl⟩
  | k + 1 => by
    have ih := spec_SumMore.ok k
    obtain ⟨i2, i6⟩ := ih
    refine ⟨?_, ?_⟩
    · intro x0 x1 x5; rw [spec_SumMore.c2]; exact (spec_SumMore.t2 _ k x0 x1 x5).trans (cd (cd (cd (i6 _ _ _ _) rfl) rfl) rfl)
    · intro x0 x1 x5 x6; rw [spec_SumMore.c6]; exact (spec_SumMore.t6 _ k x0 x1 x5 x6).trans (cd (cd (i6 _ _ _ _) (i6 _ _ _ _)) (i2 _ _ _))
set_option maxRecDepth 100000 in
theorem spec_SumMore.oke (k : Nat) (a0 : Int) (a1 : ByteArray) : goF Try.f70 spec_SumMore.ctx spec_SumMore.sp 0 spec_SumMore.en (k + 1) [.code (body Try.f70)] (startSt [.sc (.int .u32 a0), .sc (.string a1)] []) = (spec_SumMore.f k a0 a1).map spec_SumMore.e := by
  obtain ⟨i2, i6⟩ := spec_SumMore.ok k
  rw [spec_SumMore.f]; exact (spec_SumMore.te _ k a0 a1).trans (i2 _ _ _)
theorem spec_SumMore.con (k : Nat) (a0 : Int) (a1 : ByteArray) (r) (h : spec_SumMore.f k a0 a1 = some r) : Contract Try.prog kit 70 [.sc (.int .u32 a0), .sc (.string a1)] [] (spec_SumMore.e r).1 (spec_SumMore.e r).2.1 (spec_SumMore.e r).2.2 :=
  con_okG kitOk mix (fun k => CtxOk.nil) (spec_SumMore.oke k a0 a1) h (by kernel_rfl) (by kernel_rfl) (by kernel_rfl) rfl (by kernel_rfl) rfl rfl
noncomputable def spec_SumMore.x (k : Nat) : X := fun ins bs κ => match ins, bs with
  | [.sc (.int .u32 a0), .sc (.string a1)], [] => (spec_SumMore.f k a0 a1).bind fun r => κ (spec_SumMore.e r).1 (spec_SumMore.e r).2.1 (spec_SumMore.e r).2.2
  | _, _ => none
theorem spec_SumMore.xok (k : Nat) : XOk 70 (spec_SumMore.x k) := by
  intro ins bs κ res h
  unfold spec_SumMore.x at h
  split at h
  · obtain ⟨r, hr, h⟩ := Option.bind_eq_some_iff.1 h
    exact ⟨_, _, _, spec_SumMore.con k _ _ r hr, h⟩
  · cases h

/-! ### spec_SumOf: function 53 -/
noncomputable def spec_SumOf.sp : Nat → Option (Spec Ty) := fun r => none
noncomputable def spec_SumOf.en : Option (Spec Ty) := none
noncomputable def spec_SumOf.ctx (k : Nat) : Ctx Ty D := (cons 70 (spec_SumMore.x k) (fun _ _ _ _ => none))
noncomputable def spec_SumOf.f (k : Nat) (a0 : ByteArray) : Option (Int) := ((spec_SumMore.f k 4294967295 a0).bind fun t1 => (some (t1)))
noncomputable def spec_SumOf.e (r : Int) : Res Ty D := (.sc (.int .u32 r), [], [])
noncomputable abbrev spec_SumOf.g (rec : List Item → St Ty D → R) (k : Nat) := go1 Try.f53 (spec_SumOf.ctx k) spec_SumOf.sp 0 spec_SumOf.en rec
set_option maxRecDepth 100000 in
theorem spec_SumOf.te (rec : List Item → St Ty D → R) (k : Nat) (a0 : ByteArray) : spec_SumOf.g rec k [.code (body Try.f53)] (startSt [.sc (.string a0)] []) =
  (spec_SumMore.f k 4294967295 a0).bind fun t1 => some (spec_SumOf.e (t1)) := by kernel_rfl
set_option maxRecDepth 100000 in
theorem spec_SumOf.oke (k : Nat) (a0 : ByteArray) : goF Try.f53 spec_SumOf.ctx spec_SumOf.sp 0 spec_SumOf.en (k + 1) [.code (body Try.f53)] (startSt [.sc (.string a0)] []) = (spec_SumOf.f k a0).map spec_SumOf.e := by
  rw [spec_SumOf.f]; exact (spec_SumOf.te _ k a0).trans (bn (fun t1 => rfl))
theorem spec_SumOf.con (k : Nat) (a0 : ByteArray) (r) (h : spec_SumOf.f k a0 = some r) : Contract Try.prog kit 53 [.sc (.string a0)] [] (spec_SumOf.e r).1 (spec_SumOf.e r).2.1 (spec_SumOf.e r).2.2 :=
  con_okG kitOk mix (fun k => (CtxOk.cons (spec_SumMore.xok k) CtxOk.nil)) (spec_SumOf.oke k a0) h (by kernel_rfl) (by kernel_rfl) (by kernel_rfl) rfl (by kernel_rfl) rfl rfl
noncomputable def spec_SumOf.x (k : Nat) : X := fun ins bs κ => match ins, bs with
  | [.sc (.string a0)], [] => (spec_SumOf.f k a0).bind fun r => κ (spec_SumOf.e r).1 (spec_SumOf.e r).2.1 (spec_SumOf.e r).2.2
  | _, _ => none
theorem spec_SumOf.xok (k : Nat) : XOk 53 (spec_SumOf.x k) := by
  intro ins bs κ res h
  unfold spec_SumOf.x at h
  split at h
  · obtain ⟨r, hr, h⟩ := Option.bind_eq_some_iff.1 h
    exact ⟨_, _, _, spec_SumOf.con k _ r hr, h⟩
  · cases h

/-! ### spec_Unsealed: function 38 -/
noncomputable def spec_Unsealed.sp : Nat → Option (Spec Ty) := fun r => none
noncomputable def spec_Unsealed.en : Option (Spec Ty) := none
noncomputable def spec_Unsealed.ctx (k : Nat) : Ctx Ty D := (cons 52 (spec_l02Four.x k) (cons 53 (spec_SumOf.x k) (fun _ _ _ _ => none)))
noncomputable def spec_Unsealed.f (k : Nat) (a0 : ByteArray) : Option (ByteArray × Bool) := (if (w64 ((a0.size : Int) - 4)) < 0 then (some ((⟨#[]⟩ : ByteArray), false)) else (if (w64 ((a0.size : Int) - 4)) > 20000 then (some ((⟨#[]⟩ : ByteArray), false)) else (if 0 ≤ (w64 ((a0.size : Int) - 4)) then (if (w64 ((a0.size : Int) - 4)) ≤ (a0.size : Int) then (if 0 ≤ (w64 ((a0.size : Int) - 4)) then (if (w64 ((a0.size : Int) - 4)) ≤ (a0.size : Int) then ((spec_SumOf.f k (a0.extract 0 ((w64 ((a0.size : Int) - 4)).toNat))).bind fun t1 => ((spec_l02Four.f k t1).bind fun t2 => (if (seq (a0.extract ((w64 ((a0.size : Int) - 4)).toNat) a0.size) t2) = true then (if 0 ≤ (w64 ((a0.size : Int) - 4)) then (if (w64 ((a0.size : Int) - 4)) ≤ (a0.size : Int) then (some ((a0.extract 0 ((w64 ((a0.size : Int) - 4)).toNat)), true)) else none) else none) else (some ((⟨#[]⟩ : ByteArray), false))))) else none) else none) else none) else none)))
noncomputable def spec_Unsealed.e (r : ByteArray × Bool) : Res Ty D := (.tu [.sc (.string r.1), .sc (.bool r.2)], [], [])
noncomputable abbrev spec_Unsealed.g (rec : List Item → St Ty D → R) (k : Nat) := go1 Try.f38 (spec_Unsealed.ctx k) spec_Unsealed.sp 0 spec_Unsealed.en rec
set_option maxRecDepth 100000 in
theorem spec_Unsealed.te (rec : List Item → St Ty D → R) (k : Nat) (a0 : ByteArray) : spec_Unsealed.g rec k [.code (body Try.f38)] (startSt [.sc (.string a0)] []) =
  bif decide ((w64 ((a0.size : Int) - 4)) < 0) then some (spec_Unsealed.e ((⟨#[]⟩ : ByteArray), false)) else bif decide ((w64 ((a0.size : Int) - 4)) > 20000) then some (spec_Unsealed.e ((⟨#[]⟩ : ByteArray), false)) else bif decide (0 ≤ (w64 ((a0.size : Int) - 4))) then bif decide ((w64 ((a0.size : Int) - 4)) ≤ (a0.size : Int)) then bif decide (0 ≤ (w64 ((a0.size : Int) - 4))) then bif decide ((w64 ((a0.size : Int) - 4)) ≤ (a0.size : Int)) then (spec_SumOf.f k (a0.extract 0 ((w64 ((a0.size : Int) - 4)).toNat))).bind fun t1 => (spec_l02Four.f k t1).bind fun t2 => bif !(seq (a0.extract ((w64 ((a0.size : Int) - 4)).toNat) a0.size) t2) then some (spec_Unsealed.e ((⟨#[]⟩ : ByteArray), false)) else bif decide (0 ≤ (w64 ((a0.size : Int) - 4))) then bif decide ((w64 ((a0.size : Int) - 4)) ≤ (a0.size : Int)) then some (spec_Unsealed.e ((a0.extract 0 ((w64 ((a0.size : Int) - 4)).toNat)), true)) else none else none else none else none else none else none := by kernel_rfl
set_option maxRecDepth 100000 in
theorem spec_Unsealed.oke (k : Nat) (a0 : ByteArray) : goF Try.f38 spec_Unsealed.ctx spec_Unsealed.sp 0 spec_Unsealed.en (k + 1) [.code (body Try.f38)] (startSt [.sc (.string a0)] []) = (spec_Unsealed.f k a0).map spec_Unsealed.e := by
  rw [spec_Unsealed.f]; exact (spec_Unsealed.te _ k a0).trans (cd rfl (cd rfl (cd (cd (cd (cd (bn (fun t1 => (bn (fun t2 => (nb rfl (cd (cd rfl rfl) rfl)))))) rfl) rfl) rfl) rfl)))
theorem spec_Unsealed.con (k : Nat) (a0 : ByteArray) (r) (h : spec_Unsealed.f k a0 = some r) : Contract Try.prog kit 38 [.sc (.string a0)] [] (spec_Unsealed.e r).1 (spec_Unsealed.e r).2.1 (spec_Unsealed.e r).2.2 :=
  con_okG kitOk mix (fun k => (CtxOk.cons (spec_l02Four.xok k) (CtxOk.cons (spec_SumOf.xok k) CtxOk.nil))) (spec_Unsealed.oke k a0) h (by kernel_rfl) (by kernel_rfl) (by kernel_rfl) rfl (by kernel_rfl) rfl rfl
noncomputable def spec_Unsealed.x (k : Nat) : X := fun ins bs κ => match ins, bs with
  | [.sc (.string a0)], [] => (spec_Unsealed.f k a0).bind fun r => κ (spec_Unsealed.e r).1 (spec_Unsealed.e r).2.1 (spec_Unsealed.e r).2.2
  | _, _ => none
theorem spec_Unsealed.xok (k : Nat) : XOk 38 (spec_Unsealed.x k) := by
  intro ins bs κ res h
  unfold spec_Unsealed.x at h
  split at h
  · obtain ⟨r, hr, h⟩ := Option.bind_eq_some_iff.1 h
    exact ⟨_, _, _, spec_Unsealed.con k _ r hr, h⟩
  · cases h
end Go.Proofs.Ytbbfkodckpfjcaa.M2

/- Plain runs of functions: each is a plain Lean function, and keeps its contract. Written by a program of this session. -/
namespace Go.Proofs.Ytbbfkodckpfjcaa.M2
open Go Go.Proofs.Ytbbfkodckpfjcaa.PK
set_option linter.unusedVariables false
set_option linter.unusedSimpArgs false
set_option maxHeartbeats 4000000
/-! ### spec_l01Var: function 58 -/
noncomputable def spec_l01Var.sp : Nat → Option (Spec Ty) := fun r => bif Nat.beq r 2 then some ⟨[(0, .keep), (3, .own .t5)], []⟩ else none
noncomputable def spec_l01Var.en : Option (Spec Ty) := none
noncomputable def spec_l01Var.s2 (x0 : Int) (h64 : List Int) : St Ty D := ⟨(Env.put (Env.put E (some 0) (.sc (.int .i64 x0))) (some 3) (.sl 64 none)), Heap.put H0 [(64, some (.rowb .t5 h64 0))], 1000⟩
noncomputable def spec_l01Var.ctx (k : Nat) : Ctx Ty D := (fun _ _ _ _ => none)
noncomputable def spec_l01Var.c2 : Nat → Int → (List Int) → Option (ByteArray)
  | 0, _, _ => none
  | k + 1, x0, h64 => (if x0 > 127 then (if h64.length + ([(Go.IntKind.wrap .u8 ((w64 ((Int.tmod x0 128) + 128))))] : List Int).length ≤ 140737488355328 then (spec_l01Var.c2 k (w64 (Int.tdiv x0 128)) (h64 ++ ([(Go.IntKind.wrap .u8 ((w64 ((Int.tmod x0 128) + 128))))] : List Int))) else none) else (if h64.length + ([(Go.IntKind.wrap .u8 (x0))] : List Int).length ≤ 140737488355328 then (some ((strOfNums (h64 ++ ([(Go.IntKind.wrap .u8 (x0))] : List Int))))) else none))
noncomputable def spec_l01Var.f (k : Nat) (a0 : Int) : Option (ByteArray) := (spec_l01Var.c2 k a0 ([] : List Int))
noncomputable def spec_l01Var.e (r : ByteArray) : Res Ty D := (.sc (.string r), [], [])
noncomputable abbrev spec_l01Var.g (rec : List Item → St Ty D → R) (k : Nat) := go1 Try.f58 (spec_l01Var.ctx k) spec_l01Var.sp 0 spec_l01Var.en rec
set_option maxRecDepth 100000 in
theorem spec_l01Var.t2 (rec : List Item → St Ty D → R) (k : Nat) (x0 : Int) (h64 : List Int) : spec_l01Var.g rec k (td Try.f58 2) (spec_l01Var.s2 x0 h64) =
  bif decide (x0 > 127) then bif decide (h64.length + ([(Go.IntKind.wrap .u8 ((w64 ((Int.tmod x0 128) + 128))))] : List Int).length ≤ 140737488355328) then rec (td Try.f58 2) (spec_l01Var.s2 (w64 (Int.tdiv x0 128)) (h64 ++ ([(Go.IntKind.wrap .u8 ((w64 ((Int.tmod x0 128) + 128))))] : List Int))) else none else bif decide (h64.length + ([(Go.IntKind.wrap .u8 (x0))] : List Int).length ≤ 140737488355328) then some (spec_l01Var.e ((strOfNums (h64 ++ ([(Go.IntKind.wrap .u8 (x0))] : List Int))))) else none := by kernel_rfl
set_option maxRecDepth 100000 in
theorem spec_l01Var.te (rec : List Item → St Ty D → R) (k : Nat) (a0 : Int) : spec_l01Var.g rec k [.code (body Try.f58)] (startSt [.sc (.int .i64 a0)] []) =
  rec (td Try.f58 2) (spec_l01Var.s2 a0 ([] : List Int)) := by kernel_rfl
set_option maxRecDepth 100000 in
theorem spec_l01Var.ok : ∀ k : Nat, (∀ (x0 : Int) (h64 : List Int), goF Try.f58 spec_l01Var.ctx spec_l01Var.sp 0 spec_l01Var.en k (td Try.f58 2) (spec_l01Var.s2 x0 h64) = (spec_l01Var.c2 k x0 h64).map spec_l01Var.e)
  | 0 => fun _ _ => rfl
  | k + 1 => by
    have ih := spec_l01Var.ok k
    have i2 := ih
    intro x0 h64; rw [spec_l01Var.c2]; exact (spec_l01Var.t2 _ k x0 h64).trans (cd (cd (i2 _ _) rfl) (cd rfl rfl))
set_option maxRecDepth 100000 in
theorem spec_l01Var.oke (k : Nat) (a0 : Int) : goF Try.f58 spec_l01Var.ctx spec_l01Var.sp 0 spec_l01Var.en (k + 1) [.code (body Try.f58)] (startSt [.sc (.int .i64 a0)] []) = (spec_l01Var.f k a0).map spec_l01Var.e := by
  have i2 := spec_l01Var.ok k
  rw [spec_l01Var.f]; exact (spec_l01Var.te _ k a0).trans (i2 _ _)
theorem spec_l01Var.con (k : Nat) (a0 : Int) (r) (h : spec_l01Var.f k a0 = some r) : Contract Try.prog kit 58 [.sc (.int .i64 a0)] [] (spec_l01Var.e r).1 (spec_l01Var.e r).2.1 (spec_l01Var.e r).2.2 :=
  con_okG kitOk mix (fun k => CtxOk.nil) (spec_l01Var.oke k a0) h (by kernel_rfl) (by kernel_rfl) (by kernel_rfl) rfl (by kernel_rfl) rfl rfl
noncomputable def spec_l01Var.x (k : Nat) : X := fun ins bs κ => match ins, bs with
  | [.sc (.int .i64 a0)], [] => (spec_l01Var.f k a0).bind fun r => κ (spec_l01Var.e r).1 (spec_l01Var.e r).2.1 (spec_l01Var.e r).2.2
  | _, _ => none
theorem spec_l01Var.xok (k : Nat) : XOk 58 (spec_l01Var.x k) := by
  intro ins bs κ res h
  unfold spec_l01Var.x at h
  split at h
  · obtain ⟨r, hr, h⟩ := Option.bind_eq_some_iff.1 h
    exact ⟨_, _, _, spec_l01Var.con k _ r hr, h⟩
  · cases h

/-! ### spec_ReadVar: function 54 -/
noncomputable def spec_ReadVar.sp : Nat → Option (Spec Ty) := fun r => bif Nat.beq r 6 then some ⟨[(0, .keep), (1, .keep), (7, .keep), (8, .keep), (9, .keep)], []⟩ else none
noncomputable def spec_ReadVar.en : Option (Spec Ty) := none
noncomputable def spec_ReadVar.s6 (x0 : ByteArray) (x1 : Int) (x7 : Int) (x8 : Int) (x9 : Int) : St Ty D := ⟨(Env.put (Env.put (Env.put (Env.put (Env.put E (some 0) (.sc (.string x0))) (some 1) (.sc (.int .i64 x1))) (some 7) (.sc (.int .i64 x7))) (some 8) (.sc (.int .i64 x8))) (some 9) (.sc (.int .i64 x9))), H0, 1000⟩
noncomputable def spec_ReadVar.ctx (k : Nat) : Ctx Ty D := (cons 37 (spec_l01In.x k) (cons 58 (spec_l01Var.x k) (fun _ _ _ _ => none)))
noncomputable def spec_ReadVar.c6 : Nat → ByteArray → Int → Int → Int → Int → Option (Int × Int × Bool)
  | 0, _, _, _, _, _ => none
  | k + 1, x0, x1, x7, x8, x9 => (if x9 < (x0.size : Int) then (if x9 < (w64 (x1 + 5)) then (if 0 ≤ x9 then (if x9 < (x0.size : Int) then (if 0 ≤ x9 then (if x9 < (x0.size : Int) then (if (bt x0 x9) < 128 then (if (w64 (x7 + (w64 ((Int.tmod (w64 ((bt x0 x9))) 128) * x8)))) > 1000000000 then (some (0, 0, false)) else ((spec_l01Var.f k (w64 (x7 + (w64 ((Int.tmod (w64 ((bt x0 x9))) 128) * x8))))).bind fun t2 => (if 0 ≤ (w64 (x9 + 1)) then (if (w64 (x9 + 1)) ≤ (x0.size : Int) then (if 0 ≤ x1 then (if x1 ≤ (w64 (x9 + 1)) then (if (seq t2 (x0.extract x1.toNat ((w64 (x9 + 1)).toNat))) = true then (some ((w64 (x7 + (w64 ((Int.tmod (w64 ((bt x0 x9))) 128) * x8)))), (w64 (x9 + 1)), true)) else (some (0, 0, false))) else none) else none) else none) else none))) else (spec_ReadVar.c6 k x0 x1 (w64 (x7 + (w64 ((Int.tmod (w64 ((bt x0 x9))) 128) * x8)))) (w64 (x8 * 128)) (w64 (x9 + 1)))) else none) else none) else none) else none) else (some (0, 0, false))) else (some (0, 0, false)))
noncomputable def spec_ReadVar.f (k : Nat) (a0 : ByteArray) (a1 : Int) : Option (Int × Int × Bool) := ((spec_l01In.f k a1 0 (a0.size : Int)).bind fun t1 => (if t1 = true then (spec_ReadVar.c6 k a0 a1 0 1 a1) else (some (0, 0, false))))
noncomputable def spec_ReadVar.e (r : Int × Int × Bool) : Res Ty D := (.tu [.sc (.int .i64 r.1), .sc (.int .i64 r.2.1), .sc (.bool r.2.2)], [], [])
noncomputable abbrev spec_ReadVar.g (rec : List Item → St Ty D → R) (k : Nat) := go1 Try.f54 (spec_ReadVar.ctx k) spec_ReadVar.sp 0 spec_ReadVar.en rec
set_option maxRecDepth 100000 in
theorem spec_ReadVar.t6 (rec : List Item → St Ty D → R) (k : Nat) (x0 : ByteArray) (x1 : Int) (x7 : Int) (x8 : Int) (x9 : Int) : spec_ReadVar.g rec k (td Try.f54 6) (spec_ReadVar.s6 x0 x1 x7 x8 x9) =
  bif decide (x9 < (x0.size : Int)) then bif decide (x9 < (w64 (x1 + 5))) then bif decide (0 ≤ x9) then bif decide (x9 < (x0.size : Int)) then bif decide (0 ≤ x9) then bif decide (x9 < (x0.size : Int)) then bif decide ((bt x0 x9) < 128) then bif decide ((w64 (x7 + (w64 ((Int.tmod (w64 ((bt x0 x9))) 128) * x8)))) > 1000000000) then some (spec_ReadVar.e (0, 0, false)) else (spec_l01Var.f k (w64 (x7 + (w64 ((Int.tmod (w64 ((bt x0 x9))) 128) * x8))))).bind fun t2 => bif decide (0 ≤ (w64 (x9 + 1))) then bif decide ((w64 (x9 + 1)) ≤ (x0.size : Int)) then bif decide (0 ≤ x1) then bif decide (x1 ≤ (w64 (x9 + 1))) then bif !(seq t2 (x0.extract x1.toNat ((w64 (x9 + 1)).toNat))) then some (spec_ReadVar.e (0, 0, false)) else some (spec_ReadVar.e ((w64 (x7 + (w64 ((Int.tmod (w64 ((bt x0 x9))) 128) * x8)))), (w64 (x9 + 1)), true)) else none else none else none else none else rec (td Try.f54 6) (spec_ReadVar.s6 x0 x1 (w64 (x7 + (w64 ((Int.tmod (w64 ((bt x0 x9))) 128) * x8)))) (w64 (x8 * 128)) (w64 (x9 + 1))) else none else none else none else none else some (spec_ReadVar.e (0, 0, false)) else some (spec_ReadVar.e (0, 0, false)) := by kernel_rfl
set_option maxRecDepth 100000 in
theorem spec_ReadVar.te (rec : List Item → St Ty D → R) (k : Nat) (a0 : ByteArray) (a1 : Int) : spec_ReadVar.g rec k [.code (body Try.f54)] (startSt [.sc (.string a0), .sc (.int .i64 a1)] []) =
  (spec_l01In.f k a1 0 (a0.size : Int)).bind fun t1 => bif !t1 then some (spec_ReadVar.e (0, 0, false)) else rec (td Try.f54 6) (spec_ReadVar.s6 a0 a1 0 1 a1) := by kernel_rfl
set_option maxRecDepth 100000 in
theorem spec_ReadVar.ok : ∀ k : Nat, (∀ (x0 : ByteArray) (x1 : Int) (x7 : Int) (x8 : Int) (x9 : Int), goF Try.f54 spec_ReadVar.ctx spec_ReadVar.sp 0 spec_ReadVar.en k (td Try.f54 6) (spec_ReadVar.s6 x0 x1 x7 x8 x9) = (spec_ReadVar.c6 k x0 x1 x7 x8 x9).map spec_ReadVar.e)
  | 0 => fun _ _ _ _ _ => rfl
  | k + 1 => by
    have ih := spec_ReadVar.ok k
    have i6 := ih
    intro x0 x1 x7 x8 x9; rw [spec_ReadVar.c6]; exact (spec_ReadVar.t6 _ k x0 x1 x7 x8 x9).trans (cd (cd (cd (cd (cd (cd (cd (cd rfl (bn (fun t2 => (cd (cd (cd (cd (nb rfl rfl) rfl) rfl) rfl) rfl)))) (i6 _ _ _ _ _)) rfl) rfl) rfl) rfl) rfl) rfl)
set_option maxRecDepth 100000 in
theorem spec_ReadVar.oke (k : Nat) (a0 : ByteArray) (a1 : Int) : goF Try.f54 spec_ReadVar.ctx spec_ReadVar.sp 0 spec_ReadVar.en (k + 1) [.code (body Try.f54)] (startSt [.sc (.string a0), .sc (.int .i64 a1)] []) = (spec_ReadVar.f k a0 a1).map spec_ReadVar.e := by
  have i6 := spec_ReadVar.ok k
  rw [spec_ReadVar.f]; exact (spec_ReadVar.te _ k a0 a1).trans (bn (fun t1 => (nb rfl (i6 _ _ _ _ _))))
theorem spec_ReadVar.con (k : Nat) (a0 : ByteArray) (a1 : Int) (r) (h : spec_ReadVar.f k a0 a1 = some r) : Contract Try.prog kit 54 [.sc (.string a0), .sc (.int .i64 a1)] [] (spec_ReadVar.e r).1 (spec_ReadVar.e r).2.1 (spec_ReadVar.e r).2.2 :=
  con_okG kitOk mix (fun k => (CtxOk.cons (spec_l01In.xok k) (CtxOk.cons (spec_l01Var.xok k) CtxOk.nil))) (spec_ReadVar.oke k a0 a1) h (by kernel_rfl) (by kernel_rfl) (by kernel_rfl) rfl (by kernel_rfl) rfl rfl
noncomputable def spec_ReadVar.x (k : Nat) : X := fun ins bs κ => match ins, bs with
  | [.sc (.string a0), .sc (.int .i64 a1)], [] => (spec_ReadVar.f k a0 a1).bind fun r => κ (spec_ReadVar.e r).1 (spec_ReadVar.e r).2.1 (spec_ReadVar.e r).2.2
  | _, _ => none
theorem spec_ReadVar.xok (k : Nat) : XOk 54 (spec_ReadVar.x k) := by
  intro ins bs κ res h
  unfold spec_ReadVar.x at h
  split at h
  · obtain ⟨r, hr, h⟩ := Option.bind_eq_some_iff.1 h
    exact ⟨_, _, _, spec_ReadVar.con k _ _ r hr, h⟩
  · cases h

/-! ### spec_l06Var: function 39 -/
noncomputable def spec_l06Var.sp : Nat → Option (Spec Ty) := fun r => none
noncomputable def spec_l06Var.en : Option (Spec Ty) := none
noncomputable def spec_l06Var.ctx (k : Nat) : Ctx Ty D := (cons 54 (spec_ReadVar.x k) (fun _ _ _ _ => none))
noncomputable def spec_l06Var.f (k : Nat) (a0_0 : ByteArray) (a0_1 : Int) (a0_2 : Bool) : Option (Int × ByteArray × Int × Bool) := ((spec_ReadVar.f k a0_0 a0_1).bind fun t1 => (if a0_2 = true then (some (0, a0_0, a0_1, true)) else (if t1.2.2 = true then (some (t1.1, a0_0, t1.2.1, a0_2)) else (some (0, a0_0, a0_1, true)))))
noncomputable def spec_l06Var.e (r : Int × ByteArray × Int × Bool) : Res Ty D := (.sc (.int .i64 r.1), [some (.box [.sc (.string r.2.1), .sc (.int .i64 r.2.2.1), .sc (.bool r.2.2.2)])], [])
noncomputable abbrev spec_l06Var.g (rec : List Item → St Ty D → R) (k : Nat) := go1 Try.f39 (spec_l06Var.ctx k) spec_l06Var.sp 1 spec_l06Var.en rec
set_option maxRecDepth 100000 in
theorem spec_l06Var.te (rec : List Item → St Ty D → R) (k : Nat) (a0_0 : ByteArray) (a0_1 : Int) (a0_2 : Bool) : spec_l06Var.g rec k [.code (body Try.f39)] (startSt [.pt 0 0 0] [.box [.sc (.string a0_0), .sc (.int .i64 a0_1), .sc (.bool a0_2)]]) =
  (spec_ReadVar.f k a0_0 a0_1).bind fun t1 => bif a0_2 then some (spec_l06Var.e (0, a0_0, a0_1, true)) else bif !t1.2.2 then some (spec_l06Var.e (0, a0_0, a0_1, true)) else some (spec_l06Var.e (t1.1, a0_0, t1.2.1, a0_2)) := by kernel_rfl
set_option maxRecDepth 100000 in
theorem spec_l06Var.oke (k : Nat) (a0_0 : ByteArray) (a0_1 : Int) (a0_2 : Bool) : goF Try.f39 spec_l06Var.ctx spec_l06Var.sp 1 spec_l06Var.en (k + 1) [.code (body Try.f39)] (startSt [.pt 0 0 0] [.box [.sc (.string a0_0), .sc (.int .i64 a0_1), .sc (.bool a0_2)]]) = (spec_l06Var.f k a0_0 a0_1 a0_2).map spec_l06Var.e := by
  rw [spec_l06Var.f]; exact (spec_l06Var.te _ k a0_0 a0_1 a0_2).trans (bn (fun t1 => (cb rfl (nb rfl rfl))))
theorem spec_l06Var.con (k : Nat) (a0_0 : ByteArray) (a0_1 : Int) (a0_2 : Bool) (r) (h : spec_l06Var.f k a0_0 a0_1 a0_2 = some r) : Contract Try.prog kit 39 [.pt 0 0 0] [.box [.sc (.string a0_0), .sc (.int .i64 a0_1), .sc (.bool a0_2)]] (spec_l06Var.e r).1 (spec_l06Var.e r).2.1 (spec_l06Var.e r).2.2 :=
  con_okG kitOk mix (fun k => (CtxOk.cons (spec_ReadVar.xok k) CtxOk.nil)) (spec_l06Var.oke k a0_0 a0_1 a0_2) h (by kernel_rfl) (by kernel_rfl) (by kernel_rfl) rfl (by kernel_rfl) rfl rfl
noncomputable def spec_l06Var.x (k : Nat) : X := fun ins bs κ => match ins, bs with
  | [.pt 0 0 0], [.box [.sc (.string a0_0), .sc (.int .i64 a0_1), .sc (.bool a0_2)]] => (spec_l06Var.f k a0_0 a0_1 a0_2).bind fun r => κ (spec_l06Var.e r).1 (spec_l06Var.e r).2.1 (spec_l06Var.e r).2.2
  | _, _ => none
theorem spec_l06Var.xok (k : Nat) : XOk 39 (spec_l06Var.x k) := by
  intro ins bs κ res h
  unfold spec_l06Var.x at h
  split at h
  · obtain ⟨r, hr, h⟩ := Option.bind_eq_some_iff.1 h
    exact ⟨_, _, _, spec_l06Var.con k _ _ _ r hr, h⟩
  · cases h

/-! ### spec_PageOk: function 55 -/
noncomputable def spec_PageOk.sp : Nat → Option (Spec Ty) := fun r => none
noncomputable def spec_PageOk.en : Option (Spec Ty) := none
noncomputable def spec_PageOk.ctx (k : Nat) : Ctx Ty D := (cons 37 (spec_l01In.x k) (fun _ _ _ _ => none))
noncomputable def spec_PageOk.f (k : Nat) (a0_0 : Int) (a0_1 : Int) (a0_2 : Int) (a0_3 : Int) (a0_4 : Int) (a0_5 : ByteArray) : Option (Bool) := ((spec_l01In.f k a0_0 1 2).bind fun t1 => (if t1 = true then ((spec_l01In.f k a0_1 1 1000000000).bind fun t2 => (if t2 = true then ((spec_l01In.f k a0_2 1 1000000000).bind fun t3 => (if t3 = true then ((spec_l01In.f k a0_4 1 9).bind fun t4 => (if t4 = true then ((spec_l01In.f k a0_3 0 (w64 (a0_4 - 1))).bind fun t5 => (if t5 = true then (if (a0_5.size : Int) > 90 then (some (false)) else (if a0_0 = 2 then (some (true)) else (some ((decide (a0_4 = 1)))))) else (some (false)))) else (some (false)))) else (some (false)))) else (some (false)))) else (some (false))))
noncomputable def spec_PageOk.e (r : Bool) : Res Ty D := (.sc (.bool r), [], [])
noncomputable abbrev spec_PageOk.g (rec : List Item → St Ty D → R) (k : Nat) := go1 Try.f55 (spec_PageOk.ctx k) spec_PageOk.sp 0 spec_PageOk.en rec
set_option maxRecDepth 100000 in
theorem spec_PageOk.te (rec : List Item → St Ty D → R) (k : Nat) (a0_0 : Int) (a0_1 : Int) (a0_2 : Int) (a0_3 : Int) (a0_4 : Int) (a0_5 : ByteArray) : spec_PageOk.g rec k [.code (body Try.f55)] (startSt [.ag [.sc (.int .i64 a0_0), .sc (.int .i64 a0_1), .sc (.int .i64 a0_2), .sc (.int .i64 a0_3), .sc (.int .i64 a0_4), .sc (.string a0_5)]] []) =
  (spec_l01In.f k a0_0 1 2).bind fun t1 => bif !t1 then some (spec_PageOk.e (false)) else (spec_l01In.f k a0_1 1 1000000000).bind fun t2 => bif !t2 then some (spec_PageOk.e (false)) else (spec_l01In.f k a0_2 1 1000000000).bind fun t3 => bif !t3 then some (spec_PageOk.e (false)) else (spec_l01In.f k a0_4 1 9).bind fun t4 => bif !t4 then some (spec_PageOk.e (false)) else (spec_l01In.f k a0_3 0 (w64 (a0_4 - 1))).bind fun t5 => bif !t5 then some (spec_PageOk.e (false)) else bif decide ((a0_5.size : Int) > 90) then some (spec_PageOk.e (false)) else bif decide (a0_0 = 2) then some (spec_PageOk.e (true)) else some (spec_PageOk.e ((decide (a0_4 = 1)))) := by kernel_rfl
set_option maxRecDepth 100000 in
theorem spec_PageOk.oke (k : Nat) (a0_0 : Int) (a0_1 : Int) (a0_2 : Int) (a0_3 : Int) (a0_4 : Int) (a0_5 : ByteArray) : goF Try.f55 spec_PageOk.ctx spec_PageOk.sp 0 spec_PageOk.en (k + 1) [.code (body Try.f55)] (startSt [.ag [.sc (.int .i64 a0_0), .sc (.int .i64 a0_1), .sc (.int .i64 a0_2), .sc (.int .i64 a0_3), .sc (.int .i64 a0_4), .sc (.string a0_5)]] []) = (spec_PageOk.f k a0_0 a0_1 a0_2 a0_3 a0_4 a0_5).map spec_PageOk.e := by
  rw [spec_PageOk.f]; exact (spec_PageOk.te _ k a0_0 a0_1 a0_2 a0_3 a0_4 a0_5).trans (bn (fun t1 => (nb rfl (bn (fun t2 => (nb rfl (bn (fun t3 => (nb rfl (bn (fun t4 => (nb rfl (bn (fun t5 => (nb rfl (cd rfl (cd rfl rfl)))))))))))))))))
theorem spec_PageOk.con (k : Nat) (a0_0 : Int) (a0_1 : Int) (a0_2 : Int) (a0_3 : Int) (a0_4 : Int) (a0_5 : ByteArray) (r) (h : spec_PageOk.f k a0_0 a0_1 a0_2 a0_3 a0_4 a0_5 = some r) : Contract Try.prog kit 55 [.ag [.sc (.int .i64 a0_0), .sc (.int .i64 a0_1), .sc (.int .i64 a0_2), .sc (.int .i64 a0_3), .sc (.int .i64 a0_4), .sc (.string a0_5)]] [] (spec_PageOk.e r).1 (spec_PageOk.e r).2.1 (spec_PageOk.e r).2.2 :=
  con_okG kitOk mix (fun k => (CtxOk.cons (spec_l01In.xok k) CtxOk.nil)) (spec_PageOk.oke k a0_0 a0_1 a0_2 a0_3 a0_4 a0_5) h (by kernel_rfl) (by kernel_rfl) (by kernel_rfl) rfl (by kernel_rfl) rfl rfl
noncomputable def spec_PageOk.x (k : Nat) : X := fun ins bs κ => match ins, bs with
  | [.ag [.sc (.int .i64 a0_0), .sc (.int .i64 a0_1), .sc (.int .i64 a0_2), .sc (.int .i64 a0_3), .sc (.int .i64 a0_4), .sc (.string a0_5)]], [] => (spec_PageOk.f k a0_0 a0_1 a0_2 a0_3 a0_4 a0_5).bind fun r => κ (spec_PageOk.e r).1 (spec_PageOk.e r).2.1 (spec_PageOk.e r).2.2
  | _, _ => none
theorem spec_PageOk.xok (k : Nat) : XOk 55 (spec_PageOk.x k) := by
  intro ins bs κ res h
  unfold spec_PageOk.x at h
  split at h
  · obtain ⟨r, hr, h⟩ := Option.bind_eq_some_iff.1 h
    exact ⟨_, _, _, spec_PageOk.con k _ _ _ _ _ _ r hr, h⟩
  · cases h

/-! ### spec_Sealed: function 56 -/
noncomputable def spec_Sealed.sp : Nat → Option (Spec Ty) := fun r => none
noncomputable def spec_Sealed.en : Option (Spec Ty) := none
noncomputable def spec_Sealed.ctx (k : Nat) : Ctx Ty D := (cons 52 (spec_l02Four.x k) (cons 53 (spec_SumOf.x k) (fun _ _ _ _ => none)))
noncomputable def spec_Sealed.f (k : Nat) (a0 : ByteArray) : Option (ByteArray × Bool) := (if (a0.size : Int) > 20000 then (some ((⟨#[]⟩ : ByteArray), false)) else ((spec_SumOf.f k a0).bind fun t1 => ((spec_l02Four.f k t1).bind fun t2 => (if a0.size + t2.size ≤ 9223372036854775807 then (some ((a0 ++ t2), true)) else none))))
noncomputable def spec_Sealed.e (r : ByteArray × Bool) : Res Ty D := (.tu [.sc (.string r.1), .sc (.bool r.2)], [], [])
noncomputable abbrev spec_Sealed.g (rec : List Item → St Ty D → R) (k : Nat) := go1 Try.f56 (spec_Sealed.ctx k) spec_Sealed.sp 0 spec_Sealed.en rec
set_option maxRecDepth 100000 in
theorem spec_Sealed.te (rec : List Item → St Ty D → R) (k : Nat) (a0 : ByteArray) : spec_Sealed.g rec k [.code (body Try.f56)] (startSt [.sc (.string a0)] []) =
  bif decide ((a0.size : Int) > 20000) then some (spec_Sealed.e ((⟨#[]⟩ : ByteArray), false)) else (spec_SumOf.f k a0).bind fun t1 => (spec_l02Four.f k t1).bind fun t2 => bif decide (a0.size + t2.size ≤ 9223372036854775807) then some (spec_Sealed.e ((a0 ++ t2), true)) else none := by kernel_rfl
set_option maxRecDepth 100000 in
theorem spec_Sealed.oke (k : Nat) (a0 : ByteArray) : goF Try.f56 spec_Sealed.ctx spec_Sealed.sp 0 spec_Sealed.en (k + 1) [.code (body Try.f56)] (startSt [.sc (.string a0)] []) = (spec_Sealed.f k a0).map spec_Sealed.e := by
  rw [spec_Sealed.f]; exact (spec_Sealed.te _ k a0).trans (cd rfl (bn (fun t1 => (bn (fun t2 => (cd rfl rfl))))))
theorem spec_Sealed.con (k : Nat) (a0 : ByteArray) (r) (h : spec_Sealed.f k a0 = some r) : Contract Try.prog kit 56 [.sc (.string a0)] [] (spec_Sealed.e r).1 (spec_Sealed.e r).2.1 (spec_Sealed.e r).2.2 :=
  con_okG kitOk mix (fun k => (CtxOk.cons (spec_l02Four.xok k) (CtxOk.cons (spec_SumOf.xok k) CtxOk.nil))) (spec_Sealed.oke k a0) h (by kernel_rfl) (by kernel_rfl) (by kernel_rfl) rfl (by kernel_rfl) rfl rfl
noncomputable def spec_Sealed.x (k : Nat) : X := fun ins bs κ => match ins, bs with
  | [.sc (.string a0)], [] => (spec_Sealed.f k a0).bind fun r => κ (spec_Sealed.e r).1 (spec_Sealed.e r).2.1 (spec_Sealed.e r).2.2
  | _, _ => none
theorem spec_Sealed.xok (k : Nat) : XOk 56 (spec_Sealed.x k) := by
  intro ins bs κ res h
  unfold spec_Sealed.x at h
  split at h
  · obtain ⟨r, hr, h⟩ := Option.bind_eq_some_iff.1 h
    exact ⟨_, _, _, spec_Sealed.con k _ r hr, h⟩
  · cases h

/-! ### spec_l06Byte: function 57 -/
noncomputable def spec_l06Byte.sp : Nat → Option (Spec Ty) := fun r => none
noncomputable def spec_l06Byte.en : Option (Spec Ty) := none
noncomputable def spec_l06Byte.ctx (k : Nat) : Ctx Ty D := (fun _ _ _ _ => none)
noncomputable def spec_l06Byte.f (k : Nat) (a0 : Int) : Option (ByteArray) := (some ((strOfNums ([(Go.IntKind.wrap .u8 (a0))] : List Int))))
noncomputable def spec_l06Byte.e (r : ByteArray) : Res Ty D := (.sc (.string r), [], [])
noncomputable abbrev spec_l06Byte.g (rec : List Item → St Ty D → R) (k : Nat) := go1 Try.f57 (spec_l06Byte.ctx k) spec_l06Byte.sp 0 spec_l06Byte.en rec
set_option maxRecDepth 100000 in
theorem spec_l06Byte.te (rec : List Item → St Ty D → R) (k : Nat) (a0 : Int) : spec_l06Byte.g rec k [.code (body Try.f57)] (startSt [.sc (.int .i64 a0)] []) =
  some (spec_l06Byte.e ((strOfNums ([(Go.IntKind.wrap .u8 (a0))] : List Int)))) := by kernel_rfl
set_option maxRecDepth 100000 in
theorem spec_l06Byte.oke (k : Nat) (a0 : Int) : goF Try.f57 spec_l06Byte.ctx spec_l06Byte.sp 0 spec_l06Byte.en (k + 1) [.code (body Try.f57)] (startSt [.sc (.int .i64 a0)] []) = (spec_l06Byte.f k a0).map spec_l06Byte.e := by
  rw [spec_l06Byte.f]; exact (spec_l06Byte.te _ k a0).trans rfl
theorem spec_l06Byte.con (k : Nat) (a0 : Int) (r) (h : spec_l06Byte.f k a0 = some r) : Contract Try.prog kit 57 [.sc (.int .i64 a0)] [] (spec_l06Byte.e r).1 (spec_l06Byte.e r).2.1 (spec_l06Byte.e r).2.2 :=
  con_okG kitOk mix (fun k => CtxOk.nil) (spec_l06Byte.oke k a0) h (by kernel_rfl) (by kernel_rfl) (by kernel_rfl) rfl (by kernel_rfl) rfl rfl
noncomputable def spec_l06Byte.x (k : Nat) : X := fun ins bs κ => match ins, bs with
  | [.sc (.int .i64 a0)], [] => (spec_l06Byte.f k a0).bind fun r => κ (spec_l06Byte.e r).1 (spec_l06Byte.e r).2.1 (spec_l06Byte.e r).2.2
  | _, _ => none
theorem spec_l06Byte.xok (k : Nat) : XOk 57 (spec_l06Byte.x k) := by
  intro ins bs κ res h
  unfold spec_l06Byte.x at h
  split at h
  · obtain ⟨r, hr, h⟩ := Option.bind_eq_some_iff.1 h
    exact ⟨_, _, _, spec_l06Byte.con k _ r hr, h⟩
  · cases h

/-! ### spec_PageText: function 40 -/
noncomputable def spec_PageText.sp : Nat → Option (Spec Ty) := fun r => none
noncomputable def spec_PageText.en : Option (Spec Ty) := none
noncomputable def spec_PageText.ctx (k : Nat) : Ctx Ty D := (cons 55 (spec_PageOk.x k) (cons 56 (spec_Sealed.x k) (cons 57 (spec_l06Byte.x k) (cons 58 (spec_l01Var.x k) (fun _ _ _ _ => none)))))
noncomputable def spec_PageText.f (k : Nat) (a0_0 : Int) (a0_1 : Int) (a0_2 : Int) (a0_3 : Int) (a0_4 : Int) (a0_5 : ByteArray) : Option (ByteArray × Bool) := ((spec_PageOk.f k a0_0 a0_1 a0_2 a0_3 a0_4 a0_5).bind fun t1 => (if t1 = true then ((spec_l06Byte.f k a0_0).bind fun t2 => ((spec_l01Var.f k a0_1).bind fun t3 => (if t2.size + t3.size ≤ 9223372036854775807 then ((spec_l01Var.f k a0_2).bind fun t4 => (if (t2 ++ t3).size + t4.size ≤ 9223372036854775807 then ((spec_l01Var.f k a0_3).bind fun t5 => (if ((t2 ++ t3) ++ t4).size + t5.size ≤ 9223372036854775807 then ((spec_l01Var.f k a0_4).bind fun t6 => (if (((t2 ++ t3) ++ t4) ++ t5).size + t6.size ≤ 9223372036854775807 then (if ((((t2 ++ t3) ++ t4) ++ t5) ++ t6).size + a0_5.size ≤ 9223372036854775807 then ((spec_Sealed.f k (((((t2 ++ t3) ++ t4) ++ t5) ++ t6) ++ a0_5)).bind fun t7 => (some (t7.1, t7.2))) else none) else none)) else none)) else none)) else none))) else (some ((⟨#[]⟩ : ByteArray), false))))
noncomputable def spec_PageText.e (r : ByteArray × Bool) : Res Ty D := (.tu [.sc (.string r.1), .sc (.bool r.2)], [], [])
noncomputable abbrev spec_PageText.g (rec : List Item → St Ty D → R) (k : Nat) := go1 Try.f40 (spec_PageText.ctx k) spec_PageText.sp 0 spec_PageText.en rec
set_option maxRecDepth 100000 in
theorem spec_PageText.te (rec : List Item → St Ty D → R) (k : Nat) (a0_0 : Int) (a0_1 : Int) (a0_2 : Int) (a0_3 : Int) (a0_4 : Int) (a0_5 : ByteArray) : spec_PageText.g rec k [.code (body Try.f40)] (startSt [.ag [.sc (.int .i64 a0_0), .sc (.int .i64 a0_1), .sc (.int .i64 a0_2), .sc (.int .i64 a0_3), .sc (.int .i64 a0_4), .sc (.string a0_5)]] []) =
  (spec_PageOk.f k a0_0 a0_1 a0_2 a0_3 a0_4 a0_5).bind fun t1 => bif !t1 then some (spec_PageText.e ((⟨#[]⟩ : ByteArray), false)) else (spec_l06Byte.f k a0_0).bind fun t2 => (spec_l01Var.f k a0_1).bind fun t3 => bif decide (t2.size + t3.size ≤ 9223372036854775807) then (spec_l01Var.f k a0_2).bind fun t4 => bif decide ((t2 ++ t3).size + t4.size ≤ 9223372036854775807) then (spec_l01Var.f k a0_3).bind fun t5 => bif decide (((t2 ++ t3) ++ t4).size + t5.size ≤ 9223372036854775807) then (spec_l01Var.f k a0_4).bind fun t6 => bif decide ((((t2 ++ t3) ++ t4) ++ t5).size + t6.size ≤ 9223372036854775807) then bif decide (((((t2 ++ t3) ++ t4) ++ t5) ++ t6).size + a0_5.size ≤ 9223372036854775807) then (spec_Sealed.f k (((((t2 ++ t3) ++ t4) ++ t5) ++ t6) ++ a0_5)).bind fun t7 => some (spec_PageText.e (t7.1, t7.2)) else none else none else none else none else none := by kernel_rfl
set_option maxRecDepth 100000 in
theorem spec_PageText.oke (k : Nat) (a0_0 : Int) (a0_1 : Int) (a0_2 : Int) (a0_3 : Int) (a0_4 : Int) (a0_5 : ByteArray) : goF Try.f40 spec_PageText.ctx spec_PageText.sp 0 spec_PageText.en (k + 1) [.code (body Try.f40)] (startSt [.ag [.sc (.int .i64 a0_0), .sc (.int .i64 a0_1), .sc (.int .i64 a0_2), .sc (.int .i64 a0_3), .sc (.int .i64 a0_4), .sc (.string a0_5)]] []) = (spec_PageText.f k a0_0 a0_1 a0_2 a0_3 a0_4 a0_5).map spec_PageText.e := by
  rw [spec_PageText.f]; exact (spec_PageText.te _ k a0_0 a0_1 a0_2 a0_3 a0_4 a0_5).trans (bn (fun t1 => (nb rfl (bn (fun t2 => (bn (fun t3 => (cd (bn (fun t4 => (cd (bn (fun t5 => (cd (bn (fun t6 => (cd (cd (bn (fun t7 => rfl)) rfl) rfl))) rfl))) rfl))) rfl))))))))
theorem spec_PageText.con (k : Nat) (a0_0 : Int) (a0_1 : Int) (a0_2 : Int) (a0_3 : Int) (a0_4 : Int) (a0_5 : ByteArray) (r) (h : spec_PageText.f k a0_0 a0_1 a0_2 a0_3 a0_4 a0_5 = some r) : Contract Try.prog kit 40 [.ag [.sc (.int .i64 a0_0), .sc (.int .i64 a0_1), .sc (.int .i64 a0_2), .sc (.int .i64 a0_3), .sc (.int .i64 a0_4), .sc (.string a0_5)]] [] (spec_PageText.e r).1 (spec_PageText.e r).2.1 (spec_PageText.e r).2.2 :=
  con_okG kitOk mix (fun k => (CtxOk.cons (spec_PageOk.xok k) (CtxOk.cons (spec_Sealed.xok k) (CtxOk.cons (spec_l06Byte.xok k) (CtxOk.cons (spec_l01Var.xok k) CtxOk.nil))))) (spec_PageText.oke k a0_0 a0_1 a0_2 a0_3 a0_4 a0_5) h (by kernel_rfl) (by kernel_rfl) (by kernel_rfl) rfl (by kernel_rfl) rfl rfl
noncomputable def spec_PageText.x (k : Nat) : X := fun ins bs κ => match ins, bs with
  | [.ag [.sc (.int .i64 a0_0), .sc (.int .i64 a0_1), .sc (.int .i64 a0_2), .sc (.int .i64 a0_3), .sc (.int .i64 a0_4), .sc (.string a0_5)]], [] => (spec_PageText.f k a0_0 a0_1 a0_2 a0_3 a0_4 a0_5).bind fun r => κ (spec_PageText.e r).1 (spec_PageText.e r).2.1 (spec_PageText.e r).2.2
  | _, _ => none
theorem spec_PageText.xok (k : Nat) : XOk 40 (spec_PageText.x k) := by
  intro ins bs κ res h
  unfold spec_PageText.x at h
  split at h
  · obtain ⟨r, hr, h⟩ := Option.bind_eq_some_iff.1 h
    exact ⟨_, _, _, spec_PageText.con k _ _ _ _ _ _ r hr, h⟩
  · cases h

/-! ### spec_ReadPage: function 28 -/
noncomputable def spec_ReadPage.sp : Nat → Option (Spec Ty) := fun r => none
noncomputable def spec_ReadPage.en : Option (Spec Ty) := none
noncomputable def spec_ReadPage.ctx (k : Nat) : Ctx Ty D := (cons 38 (spec_Unsealed.x k) (cons 39 (spec_l06Var.x k) (cons 40 (spec_PageText.x k) (fun _ _ _ _ => none))))
noncomputable def spec_ReadPage.f (k : Nat) (a0 : ByteArray) : Option (Int × Int × Int × Int × Int × ByteArray × Bool) := ((spec_Unsealed.f k a0).bind fun t1 => (if t1.2 = true then ((spec_l06Var.f k t1.1 1 (decide ((t1.1.size : Int) < 1))).bind fun t7 => ((spec_l06Var.f k t7.2.1 t7.2.2.1 t7.2.2.2).bind fun t8 => ((spec_l06Var.f k t8.2.1 t8.2.2.1 t8.2.2.2).bind fun t9 => ((spec_l06Var.f k t9.2.1 t9.2.2.1 t9.2.2.2).bind fun t10 => (if t10.2.2.2 = true then (some (0, 0, 0, 0, 0, (⟨#[]⟩ : ByteArray), false)) else (if 0 < (t1.1.size : Int) then (if 0 ≤ t10.2.2.1 then (if t10.2.2.1 ≤ (t1.1.size : Int) then ((spec_PageText.f k (w64 ((bt t1.1 0))) t7.1 t8.1 t9.1 t10.1 (t1.1.extract t10.2.2.1.toNat t1.1.size)).bind fun t11 => (if t11.2 = true then (if (seq t11.1 a0) = true then (some ((w64 ((bt t1.1 0))), t7.1, t8.1, t9.1, t10.1, (t1.1.extract t10.2.2.1.toNat t1.1.size), true)) else (some (0, 0, 0, 0, 0, (⟨#[]⟩ : ByteArray), false))) else (some (0, 0, 0, 0, 0, (⟨#[]⟩ : ByteArray), false)))) else none) else none) else none)))))) else ((spec_l06Var.f k t1.1 1 true).bind fun t2 => ((spec_l06Var.f k t2.2.1 t2.2.2.1 t2.2.2.2).bind fun t3 => ((spec_l06Var.f k t3.2.1 t3.2.2.1 t3.2.2.2).bind fun t4 => ((spec_l06Var.f k t4.2.1 t4.2.2.1 t4.2.2.2).bind fun t5 => (if t5.2.2.2 = true then (some (0, 0, 0, 0, 0, (⟨#[]⟩ : ByteArray), false)) else (if 0 < (t1.1.size : Int) then (if 0 ≤ t5.2.2.1 then (if t5.2.2.1 ≤ (t1.1.size : Int) then ((spec_PageText.f k (w64 ((bt t1.1 0))) t2.1 t3.1 t4.1 t5.1 (t1.1.extract t5.2.2.1.toNat t1.1.size)).bind fun t6 => (if t6.2 = true then (if (seq t6.1 a0) = true then (some ((w64 ((bt t1.1 0))), t2.1, t3.1, t4.1, t5.1, (t1.1.extract t5.2.2.1.toNat t1.1.size), true)) else (some (0, 0, 0, 0, 0, (⟨#[]⟩ : ByteArray), false))) else (some (0, 0, 0, 0, 0, (⟨#[]⟩ : ByteArray), false)))) else none) else none) else none))))))))
noncomputable def spec_ReadPage.e (r : Int × Int × Int × Int × Int × ByteArray × Bool) : Res Ty D := (.tu [.ag [.sc (.int .i64 r.1), .sc (.int .i64 r.2.1), .sc (.int .i64 r.2.2.1), .sc (.int .i64 r.2.2.2.1), .sc (.int .i64 r.2.2.2.2.1), .sc (.string r.2.2.2.2.2.1)], .sc (.bool r.2.2.2.2.2.2)], [], [])
noncomputable abbrev spec_ReadPage.g (rec : List Item → St Ty D → R) (k : Nat) := go1 Try.f28 (spec_ReadPage.ctx k) spec_ReadPage.sp 0 spec_ReadPage.en rec
set_option maxRecDepth 100000 in
theorem spec_ReadPage.te (rec : List Item → St Ty D → R) (k : Nat) (a0 : ByteArray) : spec_ReadPage.g rec k [.code (body Try.f28)] (startSt [.sc (.string a0)] []) =
  (spec_Unsealed.f k a0).bind fun t1 => bif !t1.2 then (spec_l06Var.f k t1.1 1 true).bind fun t2 => (spec_l06Var.f k t2.2.1 t2.2.2.1 t2.2.2.2).bind fun t3 => (spec_l06Var.f k t3.2.1 t3.2.2.1 t3.2.2.2).bind fun t4 => (spec_l06Var.f k t4.2.1 t4.2.2.1 t4.2.2.2).bind fun t5 => bif t5.2.2.2 then some (spec_ReadPage.e (0, 0, 0, 0, 0, (⟨#[]⟩ : ByteArray), false)) else bif decide (0 < (t1.1.size : Int)) then bif decide (0 ≤ t5.2.2.1) then bif decide (t5.2.2.1 ≤ (t1.1.size : Int)) then (spec_PageText.f k (w64 ((bt t1.1 0))) t2.1 t3.1 t4.1 t5.1 (t1.1.extract t5.2.2.1.toNat t1.1.size)).bind fun t6 => bif !t6.2 then some (spec_ReadPage.e (0, 0, 0, 0, 0, (⟨#[]⟩ : ByteArray), false)) else bif !(seq t6.1 a0) then some (spec_ReadPage.e (0, 0, 0, 0, 0, (⟨#[]⟩ : ByteArray), false)) else some (spec_ReadPage.e ((w64 ((bt t1.1 0))), t2.1, t3.1, t4.1, t5.1, (t1.1.extract t5.2.2.1.toNat t1.1.size), true)) else none else none else none else (spec_l06Var.f k t1.1 1 (decide ((t1.1.size : Int) < 1))).bind fun t7 => (spec_l06Var.f k t7.2.1 t7.2.2.1 t7.2.2.2).bind fun t8 => (spec_l06Var.f k t8.2.1 t8.2.2.1 t8.2.2.2).bind fun t9 => (spec_l06Var.f k t9.2.1 t9.2.2.1 t9.2.2.2).bind fun t10 => bif t10.2.2.2 then some (spec_ReadPage.e (0, 0, 0, 0, 0, (⟨#[]⟩ : ByteArray), false)) else bif decide (0 < (t1.1.size : Int)) then bif decide (0 ≤ t10.2.2.1) then bif decide (t10.2.2.1 ≤ (t1.1.size : Int)) then (spec_PageText.f k (w64 ((bt t1.1 0))) t7.1 t8.1 t9.1 t10.1 (t1.1.extract t10.2.2.1.toNat t1.1.size)).bind fun t11 => bif !t11.2 then some (spec_ReadPage.e (0, 0, 0, 0, 0, (⟨#[]⟩ : ByteArray), false)) else bif !(seq t11.1 a0) then some (spec_ReadPage.e (0, 0, 0, 0, 0, (⟨#[]⟩ : ByteArray), false)) else some (spec_ReadPage.e ((w64 ((bt t1.1 0))), t7.1, t8.1, t9.1, t10.1, (t1.1.extract t10.2.2.1.toNat t1.1.size), true)) else none else none else none := by kernel_rfl
set_option maxRecDepth 100000 in
theorem spec_ReadPage.oke (k : Nat) (a0 : ByteArray) : goF Try.f28 spec_ReadPage.ctx spec_ReadPage.sp 0 spec_ReadPage.en (k + 1) [.code (body Try.f28)] (startSt [.sc (.string a0)] []) = (spec_ReadPage.f k a0).map spec_ReadPage.e := by
  rw [spec_ReadPage.f]; exact (spec_ReadPage.te _ k a0).trans (bn (fun t1 => (nb (bn (fun t2 => (bn (fun t3 => (bn (fun t4 => (bn (fun t5 => (cb rfl (cd (cd (cd (bn (fun t6 => (nb rfl (nb rfl rfl)))) rfl) rfl) rfl)))))))))) (bn (fun t7 => (bn (fun t8 => (bn (fun t9 => (bn (fun t10 => (cb rfl (cd (cd (cd (bn (fun t11 => (nb rfl (nb rfl rfl)))) rfl) rfl) rfl)))))))))))))
theorem spec_ReadPage.con (k : Nat) (a0 : ByteArray) (r) (h : spec_ReadPage.f k a0 = some r) : Contract Try.prog kit 28 [.sc (.string a0)] [] (spec_ReadPage.e r).1 (spec_ReadPage.e r).2.1 (spec_ReadPage.e r).2.2 :=
  con_okG kitOk mix (fun k => (CtxOk.cons (spec_Unsealed.xok k) (CtxOk.cons (spec_l06Var.xok k) (CtxOk.cons (spec_PageText.xok k) CtxOk.nil)))) (spec_ReadPage.oke k a0) h (by kernel_rfl) (by kernel_rfl) (by kernel_rfl) rfl (by kernel_rfl) rfl rfl
noncomputable def spec_ReadPage.x (k : Nat) : X := fun ins bs κ => match ins, bs with
  | [.sc (.string a0)], [] => (spec_ReadPage.f k a0).bind fun r => κ (spec_ReadPage.e r).1 (spec_ReadPage.e r).2.1 (spec_ReadPage.e r).2.2
  | _, _ => none
theorem spec_ReadPage.xok (k : Nat) : XOk 28 (spec_ReadPage.x k) := by
  intro ins bs κ res h
  unfold spec_ReadPage.x at h
  split at h
  · obtain ⟨r, hr, h⟩ := Option.bind_eq_some_iff.1 h
    exact ⟨_, _, _, spec_ReadPage.con k _ r hr, h⟩
  · cases h

/-! ### spec_ScanAll: function 19 -/
noncomputable def spec_ScanAll.sp : Nat → Option (Spec Ty) := fun r => bif Nat.beq r 3 then some ⟨[(1, .box [.keep]), (3, .own .t45), (4, .keep)], []⟩ else bif Nat.beq r 6 then some ⟨[(1, .box [.keep]), (3, .own .t45), (4, .keep), (5, .keep)], []⟩ else bif Nat.beq r 13 then some ⟨[(3, .own .t45), (10, .keep)], []⟩ else bif Nat.beq r 16 then some ⟨[(3, .own .t45), (10, .keep), (11, .keep)], []⟩ else none
noncomputable def spec_ScanAll.en : Option (Spec Ty) := some ⟨[(2, .own .t45)], []⟩
noncomputable def spec_ScanAll.s3 (x4 : Int) (h64_0 : List S62) (h65 : List S45) : St Ty D := ⟨(Env.put (Env.put (Env.put E (some 1) (.pt 64 0 0)) (some 3) (.sl 65 none)) (some 4) (.sc (.int .i64 x4))), Heap.put H0 [(64, some (.box [.row 0 .t62 h64_0])), (65, some (.rowb .t45 h65 0))], 1000⟩
noncomputable def spec_ScanAll.s6 (x4 : Int) (x5 : Int) (h64_0 : List S62) (h65 : List S45) : St Ty D := ⟨(Env.put (Env.put (Env.put (Env.put E (some 1) (.pt 64 0 0)) (some 3) (.sl 65 none)) (some 4) (.sc (.int .i64 x4))) (some 5) (.sc (.int .i64 x5))), Heap.put H0 [(64, some (.box [.row 0 .t62 h64_0])), (65, some (.rowb .t45 h65 0))], 1000⟩
noncomputable def spec_ScanAll.s13 (x10 : Int) (h64 : List S45) : St Ty D := ⟨(Env.put (Env.put E (some 3) (.sl 64 none)) (some 10) (.sc (.int .i64 x10))), Heap.put H0 [(64, some (.rowb .t45 h64 0))], 1000⟩
noncomputable def spec_ScanAll.s16 (x10 : Int) (x11 : Int) (h64 : List S45) : St Ty D := ⟨(Env.put (Env.put (Env.put E (some 3) (.sl 64 none)) (some 10) (.sc (.int .i64 x10))) (some 11) (.sc (.int .i64 x11))), Heap.put H0 [(64, some (.rowb .t45 h64 0))], 1000⟩
noncomputable def spec_ScanAll.ctx (k : Nat) : Ctx Ty D := (cons 27 (spec_ReadLeaf.x k) (cons 28 (spec_ReadPage.x k) (fun _ _ _ _ => none)))
mutual
noncomputable def spec_ScanAll.c3 : Nat → Int → (List S62) → (List S45) → Option ((List S45))
  | 0, _, _, _ => none
  | k + 1, x4, h64_0, h65 => (if x4 < (h64_0.length : Int) then (spec_ScanAll.c6 k x4 0 h64_0 h65) else (spec_ScanAll.c13 k 1 h65))
noncomputable def spec_ScanAll.c6 : Nat → Int → Int → (List S62) → (List S45) → Option ((List S45))
  | 0, _, _, _, _ => none
  | k + 1, x4, x5, h64_0, h65 => (if 0 ≤ x4 then (if x4 < (h64_0.length : Int) then (if x5 < (((rd_T62 h64_0 x4).f2).length : Int) then ((spec_ReadLeaf.f k h64_0 x4 x5).bind fun t1 => ((spec_ReadPage.f k t1.1).bind fun t2 => (if t1.2 = true then (if t2.2.2.2.2.2.2 = true then (if h65.length + ([(S45.mk x4 x5 (S43.mk t2.1 t2.2.1 t2.2.2.1 t2.2.2.2.1 t2.2.2.2.2.1 t2.2.2.2.2.2.1))] : List S45).length ≤ 1954687338268 then (spec_ScanAll.c6 k x4 (w64 (x5 + 1)) h64_0 (h65 ++ ([(S45.mk x4 x5 (S43.mk t2.1 t2.2.1 t2.2.2.1 t2.2.2.2.1 t2.2.2.2.2.1 t2.2.2.2.2.2.1))] : List S45))) else none) else (spec_ScanAll.c6 k x4 (w64 (x5 + 1)) h64_0 h65)) else (spec_ScanAll.c6 k x4 (w64 (x5 + 1)) h64_0 h65)))) else (spec_ScanAll.c3 k (w64 (x4 + 1)) h64_0 h65)) else none) else none)
noncomputable def spec_ScanAll.c13 : Nat → Int → (List S45) → Option ((List S45))
  | 0, _, _ => none
  | k + 1, x10, h64 => (if x10 < (h64.length : Int) then (spec_ScanAll.c16 k x10 x10 h64) else (some (h64)))
noncomputable def spec_ScanAll.c16 : Nat → Int → Int → (List S45) → Option ((List S45))
  | 0, _, _, _ => none
  | k + 1, x10, x11, h64 => (if x11 > 0 then (if 0 ≤ (w64 (x11 - 1)) then (if (w64 (x11 - 1)) < (h64.length : Int) then (if 0 ≤ x11 then (if x11 < (h64.length : Int) then (if ((rd_T45 h64 (w64 (x11 - 1))).f2.f1) > ((rd_T45 h64 x11).f2.f1) then (if 0 ≤ x11 then (if x11 < (h64.length : Int) then (if 0 ≤ (w64 (x11 - 1)) then (if (w64 (x11 - 1)) < (h64.length : Int) then (if 0 ≤ x11 then (if x11 < (h64.length : Int) then (if 0 ≤ (w64 (x11 - 1)) then (if (w64 (x11 - 1)) < ((h64.set x11.toNat (S45.mk ((rd_T45 h64 (w64 (x11 - 1))).f0) ((rd_T45 h64 (w64 (x11 - 1))).f1) (S43.mk ((rd_T45 h64 (w64 (x11 - 1))).f2.f0) ((rd_T45 h64 (w64 (x11 - 1))).f2.f1) ((rd_T45 h64 (w64 (x11 - 1))).f2.f2) ((rd_T45 h64 (w64 (x11 - 1))).f2.f3) ((rd_T45 h64 (w64 (x11 - 1))).f2.f4) ((rd_T45 h64 (w64 (x11 - 1))).f2.f5)))).length : Int) then (spec_ScanAll.c16 k x10 (w64 (x11 - 1)) ((h64.set x11.toNat (S45.mk ((rd_T45 h64 (w64 (x11 - 1))).f0) ((rd_T45 h64 (w64 (x11 - 1))).f1) (S43.mk ((rd_T45 h64 (w64 (x11 - 1))).f2.f0) ((rd_T45 h64 (w64 (x11 - 1))).f2.f1) ((rd_T45 h64 (w64 (x11 - 1))).f2.f2) ((rd_T45 h64 (w64 (x11 - 1))).f2.f3) ((rd_T45 h64 (w64 (x11 - 1))).f2.f4) ((rd_T45 h64 (w64 (x11 - 1))).f2.f5)))).set ((w64 (x11 - 1)).toNat) (S45.mk ((rd_T45 h64 x11).f0) ((rd_T45 h64 x11).f1) (S43.mk ((rd_T45 h64 x11).f2.f0) ((rd_T45 h64 x11).f2.f1) ((rd_T45 h64 x11).f2.f2) ((rd_T45 h64 x11).f2.f3) ((rd_T45 h64 x11).f2.f4) ((rd_T45 h64 x11).f2.f5))))) else none) else none) else none) else none) else none) else none) else none) else none) else (spec_ScanAll.c13 k (w64 (x10 + 1)) h64)) else none) else none) else none) else none) else (spec_ScanAll.c13 k (w64 (x10 + 1)) h64))
end
noncomputable def spec_ScanAll.f (k : Nat) (a0_0 : List S62) : Option ((List S45)) := (spec_ScanAll.c3 k 0 a0_0 ([] : List S45))
noncomputable def spec_ScanAll.e (r : (List S45)) : Res Ty D := (.sl 0 none, [], [.rowb .t45 r 0])
noncomputable abbrev spec_ScanAll.g (rec : List Item → St Ty D → R) (k : Nat) := go1 Try.f19 (spec_ScanAll.ctx k) spec_ScanAll.sp 0 spec_ScanAll.en rec
set_option maxRecDepth 100000 in
theorem spec_ScanAll.t3 (rec : List Item → St Ty D → R) (k : Nat) (x4 : Int) (h64_0 : List S62) (h65 : List S45) : spec_ScanAll.g rec k (td Try.f19 3) (spec_ScanAll.s3 x4 h64_0 h65) =
  bif decide (x4 < (h64_0.length : Int)) then rec (td Try.f19 6) (spec_ScanAll.s6 x4 0 h64_0 h65) else rec (td Try.f19 13) (spec_ScanAll.s13 1 h65) := by kernel_rfl
set_option maxRecDepth 100000 in
theorem spec_ScanAll.t6 (rec : List Item → St Ty D → R) (k : Nat) (x4 : Int) (x5 : Int) (h64_0 : List S62) (h65 : List S45) : spec_ScanAll.g rec k (td Try.f19 6) (spec_ScanAll.s6 x4 x5 h64_0 h65) =
  bif decide (0 ≤ x4) then bif decide (x4 < (h64_0.length : Int)) then bif decide (x5 < (((rd_T62 h64_0 x4).f2).length : Int)) then (spec_ReadLeaf.f k h64_0 x4 x5).bind fun t1 => (spec_ReadPage.f k t1.1).bind fun t2 => bif t1.2 then bif t2.2.2.2.2.2.2 then bif decide (h65.length + ([(S45.mk x4 x5 (S43.mk t2.1 t2.2.1 t2.2.2.1 t2.2.2.2.1 t2.2.2.2.2.1 t2.2.2.2.2.2.1))] : List S45).length ≤ 1954687338268) then rec (td Try.f19 6) (spec_ScanAll.s6 x4 (w64 (x5 + 1)) h64_0 (h65 ++ ([(S45.mk x4 x5 (S43.mk t2.1 t2.2.1 t2.2.2.1 t2.2.2.2.1 t2.2.2.2.2.1 t2.2.2.2.2.2.1))] : List S45))) else none else rec (td Try.f19 6) (spec_ScanAll.s6 x4 (w64 (x5 + 1)) h64_0 h65) else rec (td Try.f19 6) (spec_ScanAll.s6 x4 (w64 (x5 + 1)) h64_0 h65) else rec (td Try.f19 3) (spec_ScanAll.s3 (w64 (x4 + 1)) h64_0 h65) else none else none := by kernel_rfl
set_option maxRecDepth 100000 in
theorem spec_ScanAll.t13 (rec : List Item → St Ty D → R) (k : Nat) (x10 : Int) (h64 : List S45) : spec_ScanAll.g rec k (td Try.f19 13) (spec_ScanAll.s13 x10 h64) =
  bif decide (x10 < (h64.length : Int)) then rec (td Try.f19 16) (spec_ScanAll.s16 x10 x10 h64) else some (spec_ScanAll.e (h64)) := by kernel_rfl
set_option maxRecDepth 100000 in
theorem spec_ScanAll.t16 (rec : List Item → St Ty D → R) (k : Nat) (x10 : Int) (x11 : Int) (h64 : List S45) : spec_ScanAll.g rec k (td Try.f19 16) (spec_ScanAll.s16 x10 x11 h64) =
  bif decide (x11 > 0) then bif decide (0 ≤ (w64 (x11 - 1))) then bif decide ((w64 (x11 - 1)) < (h64.length : Int)) then bif decide (0 ≤ x11) then bif decide (x11 < (h64.length : Int)) then bif decide (((rd_T45 h64 (w64 (x11 - 1))).f2.f1) > ((rd_T45 h64 x11).f2.f1)) then bif decide (0 ≤ x11) then bif decide (x11 < (h64.length : Int)) then bif decide (0 ≤ (w64 (x11 - 1))) then bif decide ((w64 (x11 - 1)) < (h64.length : Int)) then bif decide (0 ≤ x11) then bif decide (x11 < (h64.length : Int)) then bif decide (0 ≤ (w64 (x11 - 1))) then bif decide ((w64 (x11 - 1)) < ((h64.set x11.toNat (S45.mk ((rd_T45 h64 (w64 (x11 - 1))).f0) ((rd_T45 h64 (w64 (x11 - 1))).f1) (S43.mk ((rd_T45 h64 (w64 (x11 - 1))).f2.f0) ((rd_T45 h64 (w64 (x11 - 1))).f2.f1) ((rd_T45 h64 (w64 (x11 - 1))).f2.f2) ((rd_T45 h64 (w64 (x11 - 1))).f2.f3) ((rd_T45 h64 (w64 (x11 - 1))).f2.f4) ((rd_T45 h64 (w64 (x11 - 1))).f2.f5)))).length : Int)) then rec (td Try.f19 16) (spec_ScanAll.s16 x10 (w64 (x11 - 1)) ((h64.set x11.toNat (S45.mk ((rd_T45 h64 (w64 (x11 - 1))).f0) ((rd_T45 h64 (w64 (x11 - 1))).f1) (S43.mk ((rd_T45 h64 (w64 (x11 - 1))).f2.f0) ((rd_T45 h64 (w64 (x11 - 1))).f2.f1) ((rd_T45 h64 (w64 (x11 - 1))).f2.f2) ((rd_T45 h64 (w64 (x11 - 1))).f2.f3) ((rd_T45 h64 (w64 (x11 - 1))).f2.f4) ((rd_T45 h64 (w64 (x11 - 1))).f2.f5)))).set ((w64 (x11 - 1)).toNat) (S45.mk ((rd_T45 h64 x11).f0) ((rd_T45 h64 x11).f1) (S43.mk ((rd_T45 h64 x11).f2.f0) ((rd_T45 h64 x11).f2.f1) ((rd_T45 h64 x11).f2.f2) ((rd_T45 h64 x11).f2.f3) ((rd_T45 h64 x11).f2.f4) ((rd_T45 h64 x11).f2.f5))))) else none else none else none else none else none else none else none else none else rec (td Try.f19 13) (spec_ScanAll.s13 (w64 (x10 + 1)) h64) else none else none else none else none else rec (td Try.f19 13) (spec_ScanAll.s13 (w64 (x10 + 1)) h64) := by kernel_rfl
set_option maxRecDepth 100000 in
theorem spec_ScanAll.te (rec : List Item → St Ty D → R) (k : Nat) (a0_0 : List S62) : spec_ScanAll.g rec k [.code (body Try.f19)] (startSt [.ag [.row 0 .t62 a0_0]] []) =
  rec (td Try.f19 3) (spec_ScanAll.s3 0 a0_0 ([] : List S45)) := by kernel_rfl
set_option maxRecDepth 100000 in
theorem spec_ScanAll.ok : ∀ k : Nat, (∀ (x4 : Int) (h64_0 : List S62) (h65 : List S45), goF Try.f19 spec_ScanAll.ctx spec_ScanAll.sp 0 spec_ScanAll.en k (td Try.f19 3) (spec_ScanAll.s3 x4 h64_0 h65) = (spec_ScanAll.c3 k x4 h64_0 h65).map spec_ScanAll.e) ∧ (∀ (x4 : Int) (x5 : Int) (h64_0 : List S62) (h65 : List S45), goF Try.f19 spec_ScanAll.ctx spec_ScanAll.sp 0 spec_ScanAll.en k (td Try.f19 6) (spec_ScanAll.s6 x4 x5 h64_0 h65) = (spec_ScanAll.c6 k x4 x5 h64_0 h65).map spec_ScanAll.e) ∧ (∀ (x10 : Int) (h64 : List S45), goF Try.f19 spec_ScanAll.ctx spec_ScanAll.sp 0 spec_ScanAll.en k (td Try.f19 13) (spec_ScanAll.s13 x10 h64) = (spec_ScanAll.c13 k x10 h64).map spec_ScanAll.e) ∧ (∀ (x10 : Int) (x11 : Int) (h64 : List S45), goF Try.f19 spec_ScanAll.ctx spec_ScanAll.sp 0 spec_ScanAll.en k (td Try.f19 16) (spec_ScanAll.s16 x10 x11 h64) = (spec_ScanAll.c16 k x10 x11 h64).map spec_ScanAll.e)
  | 0 => ⟨fun _ _ _ => rfl, fun _ _ _ _ => rfl, fun _ _ => rfl, fun _ _ _ => rfl⟩
  | k + 1 => by
    have ih := spec_ScanAll.ok k
    obtain ⟨i3, i6, i13, i16⟩ := ih
    refine ⟨?_, ?_, ?_, ?_⟩
    · intro x4 h64_0 h65; rw [spec_ScanAll.c3]; exact (spec_ScanAll.t3 _ k x4 h64_0 h65).trans (cd (i6 _ _ _ _) (i13 _ _))
    · intro x4 x5 h64_0 h65; rw [spec_ScanAll.c6]; exact (spec_ScanAll.t6 _ k x4 x5 h64_0 h65).trans (cd (cd (cd (bn (fun t1 => (bn (fun t2 => (cb (cb (cd (i6 _ _ _ _) rfl) (i6 _ _ _ _)) (i6 _ _ _ _)))))) (i3 _ _ _)) rfl) rfl)
    · intro x10 h64; rw [spec_ScanAll.c13]; exact (spec_ScanAll.t13 _ k x10 h64).trans (cd (i16 _ _ _) rfl)
    · intro x10 x11 h64; rw [spec_ScanAll.c16]; exact (spec_ScanAll.t16 _ k x10 x11 h64).trans (cd (cd (cd (cd (cd (cd (cd (cd (cd (cd (cd (cd (cd (cd (i16 _ _ _) rfl) rfl) rfl) rfl) rfl) rfl) rfl) rfl) (i13 _ _)) rfl) rfl) rfl) rfl) (i13 _ _))
set_option maxRecDepth 100000 in
theorem spec_ScanAll.oke (k : Nat) (a0_0 : List S62) : goF Try.f19 spec_ScanAll.ctx spec_ScanAll.sp 0 spec_ScanAll.en (k + 1) [.code (body Try.f19)] (startSt [.ag [.row 0 .t62 a0_0]] []) = (spec_ScanAll.f k a0_0).map spec_ScanAll.e := by
  obtain ⟨i3, i6, i13, i16⟩ := spec_ScanAll.ok k
  rw [spec_ScanAll.f]; exact (spec_ScanAll.te _ k a0_0).trans (i3 _ _ _)
theorem spec_ScanAll.con (k : Nat) (a0_0 : List S62) (r) (h : spec_ScanAll.f k a0_0 = some r) : Contract Try.prog kit 19 [.ag [.row 0 .t62 a0_0]] [] (spec_ScanAll.e r).1 (spec_ScanAll.e r).2.1 (spec_ScanAll.e r).2.2 :=
  con_okG kitOk mix (fun k => (CtxOk.cons (spec_ReadLeaf.xok k) (CtxOk.cons (spec_ReadPage.xok k) CtxOk.nil))) (spec_ScanAll.oke k a0_0) h (by kernel_rfl) (by kernel_rfl) (by kernel_rfl) rfl (by kernel_rfl) rfl rfl
noncomputable def spec_ScanAll.x (k : Nat) : X := fun ins bs κ => match ins, bs with
  | [.ag [.row 0 .t62 a0_0]], [] => (spec_ScanAll.f k a0_0).bind fun r => κ (spec_ScanAll.e r).1 (spec_ScanAll.e r).2.1 (spec_ScanAll.e r).2.2
  | _, _ => none
theorem spec_ScanAll.xok (k : Nat) : XOk 19 (spec_ScanAll.x k) := by
  intro ins bs κ res h
  unfold spec_ScanAll.x at h
  split at h
  · obtain ⟨r, hr, h⟩ := Option.bind_eq_some_iff.1 h
    exact ⟨_, _, _, spec_ScanAll.con k _ r hr, h⟩
  · cases h
end Go.Proofs.Ytbbfkodckpfjcaa.M2

/- Plain runs of functions: each is a plain Lean function, and keeps its contract. Written by a program of this session. -/
namespace Go.Proofs.Ytbbfkodckpfjcaa.M2
open Go Go.Proofs.Ytbbfkodckpfjcaa.PK
set_option linter.unusedVariables false
set_option linter.unusedSimpArgs false
set_option maxHeartbeats 4000000
/-! ### spec_SpotOf: function 7 -/
noncomputable def spec_SpotOf.sp : Nat → Option (Spec Ty) := fun r => none
noncomputable def spec_SpotOf.en : Option (Spec Ty) := none
noncomputable def spec_SpotOf.ctx (k : Nat) : Ctx Ty D := (cons 18 (spec_l13Newest.x k) (cons 19 (spec_ScanAll.x k) (fun _ _ _ _ => none)))
noncomputable def spec_SpotOf.f (k : Nat) (a0_0 : List S62) (a1 : Int) : Option (Int × Int × Bool) := ((spec_ScanAll.f k a0_0).bind fun t1 => ((spec_l13Newest.f k t1 a1).bind fun t2 => (some (t2.1, t2.2.1, t2.2.2.2.2.2.2.2.2))))
noncomputable def spec_SpotOf.e (r : Int × Int × Bool) : Res Ty D := (.tu [.sc (.int .i64 r.1), .sc (.int .i64 r.2.1), .sc (.bool r.2.2)], [], [])
noncomputable abbrev spec_SpotOf.g (rec : List Item → St Ty D → R) (k : Nat) := go1 Try.f7 (spec_SpotOf.ctx k) spec_SpotOf.sp 0 spec_SpotOf.en rec
set_option maxRecDepth 100000 in
theorem spec_SpotOf.te (rec : List Item → St Ty D → R) (k : Nat) (a0_0 : List S62) (a1 : Int) : spec_SpotOf.g rec k [.code (body Try.f7)] (startSt [.ag [.row 0 .t62 a0_0], .sc (.int .i64 a1)] []) =
  (spec_ScanAll.f k a0_0).bind fun t1 => (spec_l13Newest.f k t1 a1).bind fun t2 => some (spec_SpotOf.e (t2.1, t2.2.1, t2.2.2.2.2.2.2.2.2)) := by kernel_rfl
set_option maxRecDepth 100000 in
theorem spec_SpotOf.oke (k : Nat) (a0_0 : List S62) (a1 : Int) : goF Try.f7 spec_SpotOf.ctx spec_SpotOf.sp 0 spec_SpotOf.en (k + 1) [.code (body Try.f7)] (startSt [.ag [.row 0 .t62 a0_0], .sc (.int .i64 a1)] []) = (spec_SpotOf.f k a0_0 a1).map spec_SpotOf.e := by
  rw [spec_SpotOf.f]; exact (spec_SpotOf.te _ k a0_0 a1).trans (bn (fun t1 => (bn (fun t2 => rfl))))
theorem spec_SpotOf.con (k : Nat) (a0_0 : List S62) (a1 : Int) (r) (h : spec_SpotOf.f k a0_0 a1 = some r) : Contract Try.prog kit 7 [.ag [.row 0 .t62 a0_0], .sc (.int .i64 a1)] [] (spec_SpotOf.e r).1 (spec_SpotOf.e r).2.1 (spec_SpotOf.e r).2.2 :=
  con_okG kitOk mix (fun k => (CtxOk.cons (spec_l13Newest.xok k) (CtxOk.cons (spec_ScanAll.xok k) CtxOk.nil))) (spec_SpotOf.oke k a0_0 a1) h (by kernel_rfl) (by kernel_rfl) (by kernel_rfl) rfl (by kernel_rfl) rfl rfl
noncomputable def spec_SpotOf.x (k : Nat) : X := fun ins bs κ => match ins, bs with
  | [.ag [.row 0 .t62 a0_0], .sc (.int .i64 a1)], [] => (spec_SpotOf.f k a0_0 a1).bind fun r => κ (spec_SpotOf.e r).1 (spec_SpotOf.e r).2.1 (spec_SpotOf.e r).2.2
  | _, _ => none
theorem spec_SpotOf.xok (k : Nat) : XOk 7 (spec_SpotOf.x k) := by
  intro ins bs κ res h
  unfold spec_SpotOf.x at h
  split at h
  · obtain ⟨r, hr, h⟩ := Option.bind_eq_some_iff.1 h
    exact ⟨_, _, _, spec_SpotOf.con k _ _ r hr, h⟩
  · cases h

/-! ### laws_toLeaf: function 59 -/
noncomputable def laws_toLeaf.sp : Nat → Option (Spec Ty) := fun r => none
noncomputable def laws_toLeaf.en : Option (Spec Ty) := none
noncomputable def laws_toLeaf.ctx (k : Nat) : Ctx Ty D := (fun _ _ _ _ => none)
noncomputable def laws_toLeaf.f (k : Nat) (a0_0 : Int) (a0_1 : ByteArray) : Option (Int × ByteArray) := (some (a0_0, a0_1))
noncomputable def laws_toLeaf.e (r : Int × ByteArray) : Res Ty D := (.ag [.sc (.int .i64 r.1), .sc (.string r.2)], [], [])
noncomputable abbrev laws_toLeaf.g (rec : List Item → St Ty D → R) (k : Nat) := go1 Try.f59 (laws_toLeaf.ctx k) laws_toLeaf.sp 0 laws_toLeaf.en rec
set_option maxRecDepth 100000 in
theorem laws_toLeaf.te (rec : List Item → St Ty D → R) (k : Nat) (a0_0 : Int) (a0_1 : ByteArray) : laws_toLeaf.g rec k [.code (body Try.f59)] (startSt [.ag [.sc (.int .i64 a0_0), .sc (.string a0_1)]] []) =
  some (laws_toLeaf.e (a0_0, a0_1)) := by kernel_rfl
set_option maxRecDepth 100000 in
theorem laws_toLeaf.oke (k : Nat) (a0_0 : Int) (a0_1 : ByteArray) : goF Try.f59 laws_toLeaf.ctx laws_toLeaf.sp 0 laws_toLeaf.en (k + 1) [.code (body Try.f59)] (startSt [.ag [.sc (.int .i64 a0_0), .sc (.string a0_1)]] []) = (laws_toLeaf.f k a0_0 a0_1).map laws_toLeaf.e := by
  rw [laws_toLeaf.f]; exact (laws_toLeaf.te _ k a0_0 a0_1).trans rfl
theorem laws_toLeaf.con (k : Nat) (a0_0 : Int) (a0_1 : ByteArray) (r) (h : laws_toLeaf.f k a0_0 a0_1 = some r) : Contract Try.prog kit 59 [.ag [.sc (.int .i64 a0_0), .sc (.string a0_1)]] [] (laws_toLeaf.e r).1 (laws_toLeaf.e r).2.1 (laws_toLeaf.e r).2.2 :=
  con_okG kitOk mix (fun k => CtxOk.nil) (laws_toLeaf.oke k a0_0 a0_1) h (by kernel_rfl) (by kernel_rfl) (by kernel_rfl) rfl (by kernel_rfl) rfl rfl
noncomputable def laws_toLeaf.x (k : Nat) : X := fun ins bs κ => match ins, bs with
  | [.ag [.sc (.int .i64 a0_0), .sc (.string a0_1)]], [] => (laws_toLeaf.f k a0_0 a0_1).bind fun r => κ (laws_toLeaf.e r).1 (laws_toLeaf.e r).2.1 (laws_toLeaf.e r).2.2
  | _, _ => none
theorem laws_toLeaf.xok (k : Nat) : XOk 59 (laws_toLeaf.x k) := by
  intro ins bs κ res h
  unfold laws_toLeaf.x at h
  split at h
  · obtain ⟨r, hr, h⟩ := Option.bind_eq_some_iff.1 h
    exact ⟨_, _, _, laws_toLeaf.con k _ _ r hr, h⟩
  · cases h

/-! ### laws_toLeafS: function 41 -/
noncomputable def laws_toLeafS.sp : Nat → Option (Spec Ty) := fun r => bif Nat.beq r 3 then some ⟨[(0, .keep), (3, .own .t75), (4, .keep)], []⟩ else none
noncomputable def laws_toLeafS.en : Option (Spec Ty) := some ⟨[(2, .own .t75)], []⟩
noncomputable def laws_toLeafS.s3 (x0 : List S90) (x4 : Int) (h64 : List S75) : St Ty D := ⟨(Env.put (Env.put (Env.put E (some 0) (.row 0 .t90 x0)) (some 3) (.sl 64 none)) (some 4) (.sc (.int .i64 x4))), Heap.put H0 [(64, some (.rowb .t75 h64 0))], 1000⟩
noncomputable def laws_toLeafS.ctx (k : Nat) : Ctx Ty D := (cons 59 (laws_toLeaf.x k) (fun _ _ _ _ => none))
noncomputable def laws_toLeafS.c3 : Nat → (List S90) → Int → (List S75) → Option ((List S75))
  | 0, _, _, _ => none
  | k + 1, x0, x4, h64 => (if x4 < (x0.length : Int) then (if 0 ≤ x4 then (if x4 < (x0.length : Int) then ((laws_toLeaf.f k ((rd_T90 x0 x4).f0) ((rd_T90 x0 x4).f1)).bind fun t1 => (if 0 ≤ x4 then (if x4 < (h64.length : Int) then (laws_toLeafS.c3 k x0 (w64 (x4 + 1)) (h64.set x4.toNat (S75.mk t1.1 t1.2))) else none) else none)) else none) else none) else (some (h64)))
noncomputable def laws_toLeafS.f (k : Nat) (a0 : List S90) : Option ((List S75)) := (if 0 ≤ (a0.length : Int) then (if (a0.length : Int).toNat ≤ 11728124029610 then (laws_toLeafS.c3 k a0 0 (List.replicate ((a0.length : Int).toNat) z75)) else none) else none)
noncomputable def laws_toLeafS.e (r : (List S75)) : Res Ty D := (.sl 0 none, [], [.rowb .t75 r 0])
noncomputable abbrev laws_toLeafS.g (rec : List Item → St Ty D → R) (k : Nat) := go1 Try.f41 (laws_toLeafS.ctx k) laws_toLeafS.sp 0 laws_toLeafS.en rec
set_option maxRecDepth 100000 in
theorem laws_toLeafS.t3 (rec : List Item → St Ty D → R) (k : Nat) (x0 : List S90) (x4 : Int) (h64 : List S75) : laws_toLeafS.g rec k (td Try.f41 3) (laws_toLeafS.s3 x0 x4 h64) =
  bif decide (x4 < (x0.length : Int)) then bif decide (0 ≤ x4) then bif decide (x4 < (x0.length : Int)) then (laws_toLeaf.f k ((rd_T90 x0 x4).f0) ((rd_T90 x0 x4).f1)).bind fun t1 => bif decide (0 ≤ x4) then bif decide (x4 < (h64.length : Int)) then rec (td Try.f41 3) (laws_toLeafS.s3 x0 (w64 (x4 + 1)) (h64.set x4.toNat (S75.mk t1.1 t1.2))) else none else none else none else none else some (laws_toLeafS.e (h64)) := by kernel_rfl
set_option maxRecDepth 100000 in
theorem laws_toLeafS.te (rec : List Item → St Ty D → R) (k : Nat) (a0 : List S90) : laws_toLeafS.g rec k [.code (body Try.f41)] (startSt [.row 0 .t90 a0] []) =
  bif decide ((a0.length : Int) = (a0.length : Int)) then bif decide (0 ≤ (a0.length : Int)) then bif decide ((a0.length : Int).toNat ≤ 11728124029610) then rec (td Try.f41 3) (laws_toLeafS.s3 a0 0 (List.replicate ((a0.length : Int).toNat) z75)) else none else none else none := by kernel_rfl
set_option maxRecDepth 100000 in
theorem laws_toLeafS.ok : ∀ k : Nat, (∀ (x0 : List S90) (x4 : Int) (h64 : List S75), goF Try.f41 laws_toLeafS.ctx laws_toLeafS.sp 0 laws_toLeafS.en k (td Try.f41 3) (laws_toLeafS.s3 x0 x4 h64) = (laws_toLeafS.c3 k x0 x4 h64).map laws_toLeafS.e)
  | 0 => fun _ _ _ => rfl
  | k + 1 => by
    have ih := laws_toLeafS.ok k
    have i3 := ih
    intro x0 x4 h64; rw [laws_toLeafS.c3]; exact (laws_toLeafS.t3 _ k x0 x4 h64).trans (cd (cd (cd (bn (fun t1 => (cd (cd (i3 _ _ _) rfl) rfl))) rfl) rfl) rfl)
set_option maxRecDepth 100000 in
theorem laws_toLeafS.oke (k : Nat) (a0 : List S90) : goF Try.f41 laws_toLeafS.ctx laws_toLeafS.sp 0 laws_toLeafS.en (k + 1) [.code (body Try.f41)] (startSt [.row 0 .t90 a0] []) = (laws_toLeafS.f k a0).map laws_toLeafS.e := by
  have i3 := laws_toLeafS.ok k
  rw [laws_toLeafS.f]; exact (laws_toLeafS.te _ k a0).trans (sf (cd (cd (i3 _ _ _) rfl) rfl))
theorem laws_toLeafS.con (k : Nat) (a0 : List S90) (r) (h : laws_toLeafS.f k a0 = some r) : Contract Try.prog kit 41 [.row 0 .t90 a0] [] (laws_toLeafS.e r).1 (laws_toLeafS.e r).2.1 (laws_toLeafS.e r).2.2 :=
  con_okG kitOk mix (fun k => (CtxOk.cons (laws_toLeaf.xok k) CtxOk.nil)) (laws_toLeafS.oke k a0) h (by kernel_rfl) (by kernel_rfl) (by kernel_rfl) rfl (by kernel_rfl) rfl rfl
noncomputable def laws_toLeafS.x (k : Nat) : X := fun ins bs κ => match ins, bs with
  | [.row 0 .t90 a0], [] => (laws_toLeafS.f k a0).bind fun r => κ (laws_toLeafS.e r).1 (laws_toLeafS.e r).2.1 (laws_toLeafS.e r).2.2
  | _, _ => none
theorem laws_toLeafS.xok (k : Nat) : XOk 41 (laws_toLeafS.x k) := by
  intro ins bs κ res h
  unfold laws_toLeafS.x at h
  split at h
  · obtain ⟨r, hr, h⟩ := Option.bind_eq_some_iff.1 h
    exact ⟨_, _, _, laws_toLeafS.con k _ r hr, h⟩
  · cases h

/-! ### laws_toBlock: function 29 -/
noncomputable def laws_toBlock.sp : Nat → Option (Spec Ty) := fun r => none
noncomputable def laws_toBlock.en : Option (Spec Ty) := some ⟨[(2, .box [.keep, .keep, .own .t75])], []⟩
noncomputable def laws_toBlock.ctx (k : Nat) : Ctx Ty D := (cons 41 (laws_toLeafS.x k) (fun _ _ _ _ => none))
noncomputable def laws_toBlock.f (k : Nat) (a0_0 : Bool) (a0_1 : Int) (a0_2 : List S90) : Option (Bool × Int × (List S75)) := ((laws_toLeafS.f k a0_2).bind fun t1 => (some (a0_0, a0_1, t1)))
noncomputable def laws_toBlock.e (r : Bool × Int × (List S75)) : Res Ty D := (.ag [.sc (.bool r.1), .sc (.int .i64 r.2.1), .sl 0 none], [], [.rowb .t75 r.2.2 0])
noncomputable abbrev laws_toBlock.g (rec : List Item → St Ty D → R) (k : Nat) := go1 Try.f29 (laws_toBlock.ctx k) laws_toBlock.sp 0 laws_toBlock.en rec
set_option maxRecDepth 100000 in
theorem laws_toBlock.te (rec : List Item → St Ty D → R) (k : Nat) (a0_0 : Bool) (a0_1 : Int) (a0_2 : List S90) : laws_toBlock.g rec k [.code (body Try.f29)] (startSt [.ag [.sc (.bool a0_0), .sc (.int .i64 a0_1), .row 0 .t90 a0_2]] []) =
  (laws_toLeafS.f k a0_2).bind fun t1 => some (laws_toBlock.e (a0_0, a0_1, t1)) := by kernel_rfl
set_option maxRecDepth 100000 in
theorem laws_toBlock.oke (k : Nat) (a0_0 : Bool) (a0_1 : Int) (a0_2 : List S90) : goF Try.f29 laws_toBlock.ctx laws_toBlock.sp 0 laws_toBlock.en (k + 1) [.code (body Try.f29)] (startSt [.ag [.sc (.bool a0_0), .sc (.int .i64 a0_1), .row 0 .t90 a0_2]] []) = (laws_toBlock.f k a0_0 a0_1 a0_2).map laws_toBlock.e := by
  rw [laws_toBlock.f]; exact (laws_toBlock.te _ k a0_0 a0_1 a0_2).trans (bn (fun t1 => rfl))
theorem laws_toBlock.con (k : Nat) (a0_0 : Bool) (a0_1 : Int) (a0_2 : List S90) (r) (h : laws_toBlock.f k a0_0 a0_1 a0_2 = some r) : Contract Try.prog kit 29 [.ag [.sc (.bool a0_0), .sc (.int .i64 a0_1), .row 0 .t90 a0_2]] [] (laws_toBlock.e r).1 (laws_toBlock.e r).2.1 (laws_toBlock.e r).2.2 :=
  con_okG kitOk mix (fun k => (CtxOk.cons (laws_toLeafS.xok k) CtxOk.nil)) (laws_toBlock.oke k a0_0 a0_1 a0_2) h (by kernel_rfl) (by kernel_rfl) (by kernel_rfl) rfl (by kernel_rfl) rfl rfl
noncomputable def laws_toBlock.x (k : Nat) : X := fun ins bs κ => match ins, bs with
  | [.ag [.sc (.bool a0_0), .sc (.int .i64 a0_1), .row 0 .t90 a0_2]], [] => (laws_toBlock.f k a0_0 a0_1 a0_2).bind fun r => κ (laws_toBlock.e r).1 (laws_toBlock.e r).2.1 (laws_toBlock.e r).2.2
  | _, _ => none
theorem laws_toBlock.xok (k : Nat) : XOk 29 (laws_toBlock.x k) := by
  intro ins bs κ res h
  unfold laws_toBlock.x at h
  split at h
  · obtain ⟨r, hr, h⟩ := Option.bind_eq_some_iff.1 h
    exact ⟨_, _, _, laws_toBlock.con k _ _ _ r hr, h⟩
  · cases h

/-! ### laws_toBlockS: function 20 -/
noncomputable def laws_toBlockS.sp : Nat → Option (Spec Ty) := fun r => bif Nat.beq r 3 then some ⟨[(0, .keep), (3, .own .t62), (4, .keep)], []⟩ else none
noncomputable def laws_toBlockS.en : Option (Spec Ty) := some ⟨[(2, .own .t62)], []⟩
noncomputable def laws_toBlockS.s3 (x0 : List S59) (x4 : Int) (h64 : List S62) : St Ty D := ⟨(Env.put (Env.put (Env.put E (some 0) (.row 0 .t59 x0)) (some 3) (.sl 64 none)) (some 4) (.sc (.int .i64 x4))), Heap.put H0 [(64, some (.rowb .t62 h64 0))], 1000⟩
noncomputable def laws_toBlockS.ctx (k : Nat) : Ctx Ty D := (cons 29 (laws_toBlock.x k) (fun _ _ _ _ => none))
noncomputable def laws_toBlockS.c3 : Nat → (List S59) → Int → (List S62) → Option ((List S62))
  | 0, _, _, _ => none
  | k + 1, x0, x4, h64 => (if x4 < (x0.length : Int) then (if 0 ≤ x4 then (if x4 < (x0.length : Int) then ((laws_toBlock.f k ((rd_T59 x0 x4).f0) ((rd_T59 x0 x4).f1) ((rd_T59 x0 x4).f2)).bind fun t1 => (if 0 ≤ x4 then (if x4 < (h64.length : Int) then (laws_toBlockS.c3 k x0 (w64 (x4 + 1)) (h64.set x4.toNat (S62.mk t1.1 t1.2.1 t1.2.2))) else none) else none)) else none) else none) else (some (h64)))
noncomputable def laws_toBlockS.f (k : Nat) (a0 : List S59) : Option ((List S62)) := (if 0 ≤ (a0.length : Int) then (if (a0.length : Int).toNat ≤ 7036874417766 then (laws_toBlockS.c3 k a0 0 (List.replicate ((a0.length : Int).toNat) z62)) else none) else none)
noncomputable def laws_toBlockS.e (r : (List S62)) : Res Ty D := (.sl 0 none, [], [.rowb .t62 r 0])
noncomputable abbrev laws_toBlockS.g (rec : List Item → St Ty D → R) (k : Nat) := go1 Try.f20 (laws_toBlockS.ctx k) laws_toBlockS.sp 0 laws_toBlockS.en rec
set_option maxRecDepth 100000 in
theorem laws_toBlockS.t3 (rec : List Item → St Ty D → R) (k : Nat) (x0 : List S59) (x4 : Int) (h64 : List S62) : laws_toBlockS.g rec k (td Try.f20 3) (laws_toBlockS.s3 x0 x4 h64) =
  bif decide (x4 < (x0.length : Int)) then bif decide (0 ≤ x4) then bif decide (x4 < (x0.length : Int)) then (laws_toBlock.f k ((rd_T59 x0 x4).f0) ((rd_T59 x0 x4).f1) ((rd_T59 x0 x4).f2)).bind fun t1 => bif decide (0 ≤ x4) then bif decide (x4 < (h64.length : Int)) then rec (td Try.f20 3) (laws_toBlockS.s3 x0 (w64 (x4 + 1)) (h64.set x4.toNat (S62.mk t1.1 t1.2.1 t1.2.2))) else none else none else none else none else some (laws_toBlockS.e (h64)) := by kernel_rfl
set_option maxRecDepth 100000 in
theorem laws_toBlockS.te (rec : List Item → St Ty D → R) (k : Nat) (a0 : List S59) : laws_toBlockS.g rec k [.code (body Try.f20)] (startSt [.row 0 .t59 a0] []) =
  bif decide ((a0.length : Int) = (a0.length : Int)) then bif decide (0 ≤ (a0.length : Int)) then bif decide ((a0.length : Int).toNat ≤ 7036874417766) then rec (td Try.f20 3) (laws_toBlockS.s3 a0 0 (List.replicate ((a0.length : Int).toNat) z62)) else none else none else none := by kernel_rfl
set_option maxRecDepth 100000 in
theorem laws_toBlockS.ok : ∀ k : Nat, (∀ (x0 : List S59) (x4 : Int) (h64 : List S62), goF Try.f20 laws_toBlockS.ctx laws_toBlockS.sp 0 laws_toBlockS.en k (td Try.f20 3) (laws_toBlockS.s3 x0 x4 h64) = (laws_toBlockS.c3 k x0 x4 h64).map laws_toBlockS.e)
  | 0 => fun _ _ _ => rfl
  | k + 1 => by
    have ih := laws_toBlockS.ok k
    have i3 := ih
    intro x0 x4 h64; rw [laws_toBlockS.c3]; exact (laws_toBlockS.t3 _ k x0 x4 h64).trans (cd (cd (cd (bn (fun t1 => (cd (cd (i3 _ _ _) rfl) rfl))) rfl) rfl) rfl)
set_option maxRecDepth 100000 in
theorem laws_toBlockS.oke (k : Nat) (a0 : List S59) : goF Try.f20 laws_toBlockS.ctx laws_toBlockS.sp 0 laws_toBlockS.en (k + 1) [.code (body Try.f20)] (startSt [.row 0 .t59 a0] []) = (laws_toBlockS.f k a0).map laws_toBlockS.e := by
  have i3 := laws_toBlockS.ok k
  rw [laws_toBlockS.f]; exact (laws_toBlockS.te _ k a0).trans (sf (cd (cd (i3 _ _ _) rfl) rfl))
theorem laws_toBlockS.con (k : Nat) (a0 : List S59) (r) (h : laws_toBlockS.f k a0 = some r) : Contract Try.prog kit 20 [.row 0 .t59 a0] [] (laws_toBlockS.e r).1 (laws_toBlockS.e r).2.1 (laws_toBlockS.e r).2.2 :=
  con_okG kitOk mix (fun k => (CtxOk.cons (laws_toBlock.xok k) CtxOk.nil)) (laws_toBlockS.oke k a0) h (by kernel_rfl) (by kernel_rfl) (by kernel_rfl) rfl (by kernel_rfl) rfl rfl
noncomputable def laws_toBlockS.x (k : Nat) : X := fun ins bs κ => match ins, bs with
  | [.row 0 .t59 a0], [] => (laws_toBlockS.f k a0).bind fun r => κ (laws_toBlockS.e r).1 (laws_toBlockS.e r).2.1 (laws_toBlockS.e r).2.2
  | _, _ => none
theorem laws_toBlockS.xok (k : Nat) : XOk 20 (laws_toBlockS.x k) := by
  intro ins bs κ res h
  unfold laws_toBlockS.x at h
  split at h
  · obtain ⟨r, hr, h⟩ := Option.bind_eq_some_iff.1 h
    exact ⟨_, _, _, laws_toBlockS.con k _ r hr, h⟩
  · cases h

/-! ### laws_toFlash: function 8 -/
noncomputable def laws_toFlash.sp : Nat → Option (Spec Ty) := fun r => none
noncomputable def laws_toFlash.en : Option (Spec Ty) := some ⟨[(2, .box [.own .t62])], []⟩
noncomputable def laws_toFlash.ctx (k : Nat) : Ctx Ty D := (cons 20 (laws_toBlockS.x k) (fun _ _ _ _ => none))
noncomputable def laws_toFlash.f (k : Nat) (a0_0 : List S59) : Option ((List S62)) := ((laws_toBlockS.f k a0_0).bind fun t1 => (some (t1)))
noncomputable def laws_toFlash.e (r : (List S62)) : Res Ty D := (.ag [.sl 0 none], [], [.rowb .t62 r 0])
noncomputable abbrev laws_toFlash.g (rec : List Item → St Ty D → R) (k : Nat) := go1 Try.f8 (laws_toFlash.ctx k) laws_toFlash.sp 0 laws_toFlash.en rec
set_option maxRecDepth 100000 in
theorem laws_toFlash.te (rec : List Item → St Ty D → R) (k : Nat) (a0_0 : List S59) : laws_toFlash.g rec k [.code (body Try.f8)] (startSt [.ag [.row 0 .t59 a0_0]] []) =
  (laws_toBlockS.f k a0_0).bind fun t1 => some (laws_toFlash.e (t1)) := by kernel_rfl
set_option maxRecDepth 100000 in
theorem laws_toFlash.oke (k : Nat) (a0_0 : List S59) : goF Try.f8 laws_toFlash.ctx laws_toFlash.sp 0 laws_toFlash.en (k + 1) [.code (body Try.f8)] (startSt [.ag [.row 0 .t59 a0_0]] []) = (laws_toFlash.f k a0_0).map laws_toFlash.e := by
  rw [laws_toFlash.f]; exact (laws_toFlash.te _ k a0_0).trans (bn (fun t1 => rfl))
theorem laws_toFlash.con (k : Nat) (a0_0 : List S59) (r) (h : laws_toFlash.f k a0_0 = some r) : Contract Try.prog kit 8 [.ag [.row 0 .t59 a0_0]] [] (laws_toFlash.e r).1 (laws_toFlash.e r).2.1 (laws_toFlash.e r).2.2 :=
  con_okG kitOk mix (fun k => (CtxOk.cons (laws_toBlockS.xok k) CtxOk.nil)) (laws_toFlash.oke k a0_0) h (by kernel_rfl) (by kernel_rfl) (by kernel_rfl) rfl (by kernel_rfl) rfl rfl
noncomputable def laws_toFlash.x (k : Nat) : X := fun ins bs κ => match ins, bs with
  | [.ag [.row 0 .t59 a0_0]], [] => (laws_toFlash.f k a0_0).bind fun r => κ (laws_toFlash.e r).1 (laws_toFlash.e r).2.1 (laws_toFlash.e r).2.2
  | _, _ => none
theorem laws_toFlash.xok (k : Nat) : XOk 8 (laws_toFlash.x k) := by
  intro ins bs κ res h
  unfold laws_toFlash.x at h
  split at h
  · obtain ⟨r, hr, h⟩ := Option.bind_eq_some_iff.1 h
    exact ⟨_, _, _, laws_toFlash.con k _ r hr, h⟩
  · cases h

/-! ### impl_SumMore: function 86 -/
noncomputable def impl_SumMore.sp : Nat → Option (Spec Ty) := fun r => bif Nat.beq r 2 then some ⟨[(0, .keep), (1, .keep), (5, .keep)], []⟩ else bif Nat.beq r 6 then some ⟨[(0, .keep), (1, .keep), (5, .keep), (19, .keep)], []⟩ else none
noncomputable def impl_SumMore.en : Option (Spec Ty) := none
noncomputable def impl_SumMore.s2 (x0 : Int) (x1 : ByteArray) (x5 : Int) : St Ty D := ⟨(Env.put (Env.put (Env.put E (some 0) (.sc (.int .u32 x0))) (some 1) (.sc (.string x1))) (some 5) (.sc (.int .i64 x5))), H0, 1000⟩
noncomputable def impl_SumMore.s6 (x0 : Int) (x1 : ByteArray) (x5 : Int) (x19 : Int) : St Ty D := ⟨(Env.put (Env.put (Env.put (Env.put E (some 0) (.sc (.int .u32 x0))) (some 1) (.sc (.string x1))) (some 5) (.sc (.int .i64 x5))) (some 19) (.sc (.int .i64 x19))), H0, 1000⟩
noncomputable def impl_SumMore.ctx (k : Nat) : Ctx Ty D := (fun _ _ _ _ => none)
mutual
noncomputable def impl_SumMore.c2 : Nat → Int → ByteArray → Int → Option (Int)
  | 0, _, _, _ => none
  | k + 1, x0, x1, x5 => (if x5 < (x1.size : Int) then (if 0 ≤ x5 then (if x5 < (x1.size : Int) then (impl_SumMore.c6 k (Go.bits .xor .u32 x0 (Go.IntKind.wrap .u32 ((bt x1 x5)))) x1 x5 0) else none) else none) else (some (x0)))
noncomputable def impl_SumMore.c6 : Nat → Int → ByteArray → Int → Int → Option (Int)
  | 0, _, _, _, _ => none
  | k + 1, x0, x1, x5, x19 => (if x19 < 8 then (if (Go.bits .and .u32 x0 1) = 1 then (impl_SumMore.c6 k (Go.bits .xor .u32 (Int.fdiv x0 2) 3558460437) x1 x5 (w64 (x19 + 1))) else (impl_SumMore.c6 k (Int.fdiv x0 2) x1 x5 (w64 (x19 + 1)))) else (impl_SumMore.c2 k x0 x1 (w64 (x5 + 1))))
end
noncomputable def impl_SumMore.f (k : Nat) (a0 : Int) (a1 : ByteArray) : Option (Int) := (impl_SumMore.c2 k a0 a1 0)
noncomputable def impl_SumMore.e (r : Int) : Res Ty D := (.sc (.int .u32 r), [], [])
noncomputable abbrev impl_SumMore.g (rec : List Item → St Ty D → R) (k : Nat) := go1 Try.f86 (impl_SumMore.ctx k) impl_SumMore.sp 0 impl_SumMore.en rec
set_option maxRecDepth 100000 in
theorem impl_SumMore.t2 (rec : List Item → St Ty D → R) (k : Nat) (x0 : Int) (x1 : ByteArray) (x5 : Int) : impl_SumMore.g rec k (td Try.f86 2) (impl_SumMore.s2 x0 x1 x5) =
  bif decide (x5 < (x1.size : Int)) then bif decide (0 ≤ x5) then bif decide (x5 < (x1.size : Int)) then rec (td Try.f86 6) (impl_SumMore.s6 (Go.bits .xor .u32 x0 (Go.IntKind.wrap .u32 ((bt x1 x5)))) x1 x5 0) else none else none else some (impl_SumMore.e (x0)) := by kernel_rfl
set_option maxRecDepth 100000 in
theorem impl_SumMore.t6 (rec : List Item → St Ty D → R) (k : Nat) (x0 : Int) (x1 : ByteArray) (x5 : Int) (x19 : Int) : impl_SumMore.g rec k (td Try.f86 6) (impl_SumMore.s6 x0 x1 x5 x19) =
  bif decide (x19 < 8) then bif decide ((Go.bits .and .u32 x0 1) = 1) then rec (td Try.f86 6) (impl_SumMore.s6 (Go.bits .xor .u32 (Int.fdiv x0 2) 3558460437) x1 x5 (w64 (x19 + 1))) else rec (td Try.f86 6) (impl_SumMore.s6 (Int.fdiv x0 2) x1 x5 (w64 (x19 + 1))) else rec (td Try.f86 2) (impl_SumMore.s2 x0 x1 (w64 (x5 + 1))) := by kernel_rfl
set_option maxRecDepth 100000 in
theorem impl_SumMore.te (rec : List Item → St Ty D → R) (k : Nat) (a0 : Int) (a1 : ByteArray) : impl_SumMore.g rec k [.code (body Try.f86)] (startSt [.sc (.int .u32 a0), .sc (.string a1)] []) =
  rec (td Try.f86 2) (impl_SumMore.s2 a0 a1 0) := by kernel_rfl
set_option maxRecDepth 100000 in
theorem impl_SumMore.ok : ∀ k : Nat, (∀ (x0 : Int) (x1 : ByteArray) (x5 : Int), goF Try.f86 impl_SumMore.ctx impl_SumMore.sp 0 impl_SumMore.en k (td Try.f86 2) (impl_SumMore.s2 x0 x1 x5) = (impl_SumMore.c2 k x0 x1 x5).map impl_SumMore.e) ∧ (∀ (x0 : Int) (x1 : ByteArray) (x5 : Int) (x19 : Int), goF Try.f86 impl_SumMore.ctx impl_SumMore.sp 0 impl_SumMore.en k (td Try.f86 6) (impl_SumMore.s6 x0 x1 x5 x19) = (impl_SumMore.c6 k x0 x1 x5 x19).map impl_SumMore.e)
  | 0 => ⟨fun _ _ _ => rfl, fun _ _ _ _ => rfl⟩
  | k + 1 => by
    have ih := impl_SumMore.ok k
    obtain ⟨i2, i6⟩ := ih
    refine ⟨?_, ?_⟩
    · intro x0 x1 x5; rw [impl_SumMore.c2]; exact (impl_SumMore.t2 _ k x0 x1 x5).trans (cd (cd (cd (i6 _ _ _ _) rfl) rfl) rfl)
    · intro x0 x1 x5 x19; rw [impl_SumMore.c6]; exact (impl_SumMore.t6 _ k x0 x1 x5 x19).trans (cd (cd (i6 _ _ _ _) (i6 _ _ _ _)) (i2 _ _ _))
set_option maxRecDepth 100000 in
theorem impl_SumMore.oke (k : Nat) (a0 : Int) (a1 : ByteArray) : goF Try.f86 impl_SumMore.ctx impl_SumMore.sp 0 impl_SumMore.en (k + 1) [.code (body Try.f86)] (startSt [.sc (.int .u32 a0), .sc (.string a1)] []) = (impl_SumMore.f k a0 a1).map impl_SumMore.e := by
  obtain ⟨i2, i6⟩ := impl_SumMore.ok k
  rw [impl_SumMore.f]; exact (impl_SumMore.te _ k a0 a1).trans (i2 _ _ _)
theorem impl_SumMore.con (k : Nat) (a0 : Int) (a1 : ByteArray) (r) (h : impl_SumMore.f k a0 a1 = some r) : Contract Try.prog kit 86 [.sc (.int .u32 a0), .sc (.string a1)] [] (impl_SumMore.e r).1 (impl_SumMore.e r).2.1 (impl_SumMore.e r).2.2 :=
  con_okG kitOk mix (fun k => CtxOk.nil) (impl_SumMore.oke k a0 a1) h (by kernel_rfl) (by kernel_rfl) (by kernel_rfl) rfl (by kernel_rfl) rfl rfl
noncomputable def impl_SumMore.x (k : Nat) : X := fun ins bs κ => match ins, bs with
  | [.sc (.int .u32 a0), .sc (.string a1)], [] => (impl_SumMore.f k a0 a1).bind fun r => κ (impl_SumMore.e r).1 (impl_SumMore.e r).2.1 (impl_SumMore.e r).2.2
  | _, _ => none
theorem impl_SumMore.xok (k : Nat) : XOk 86 (impl_SumMore.x k) := by
  intro ins bs κ res h
  unfold impl_SumMore.x at h
  split at h
  · obtain ⟨r, hr, h⟩ := Option.bind_eq_some_iff.1 h
    exact ⟨_, _, _, impl_SumMore.con k _ _ r hr, h⟩
  · cases h

/-! ### impl_SumOf: function 84 -/
noncomputable def impl_SumOf.sp : Nat → Option (Spec Ty) := fun r => none
noncomputable def impl_SumOf.en : Option (Spec Ty) := none
noncomputable def impl_SumOf.ctx (k : Nat) : Ctx Ty D := (cons 86 (impl_SumMore.x k) (fun _ _ _ _ => none))
noncomputable def impl_SumOf.f (k : Nat) (a0 : ByteArray) : Option (Int) := ((impl_SumMore.f k 4294967295 a0).bind fun t1 => (some (t1)))
noncomputable def impl_SumOf.e (r : Int) : Res Ty D := (.sc (.int .u32 r), [], [])
noncomputable abbrev impl_SumOf.g (rec : List Item → St Ty D → R) (k : Nat) := go1 Try.f84 (impl_SumOf.ctx k) impl_SumOf.sp 0 impl_SumOf.en rec
set_option maxRecDepth 100000 in
theorem impl_SumOf.te (rec : List Item → St Ty D → R) (k : Nat) (a0 : ByteArray) : impl_SumOf.g rec k [.code (body Try.f84)] (startSt [.sc (.string a0)] []) =
  (impl_SumMore.f k 4294967295 a0).bind fun t1 => some (impl_SumOf.e (t1)) := by kernel_rfl
set_option maxRecDepth 100000 in
theorem impl_SumOf.oke (k : Nat) (a0 : ByteArray) : goF Try.f84 impl_SumOf.ctx impl_SumOf.sp 0 impl_SumOf.en (k + 1) [.code (body Try.f84)] (startSt [.sc (.string a0)] []) = (impl_SumOf.f k a0).map impl_SumOf.e := by
  rw [impl_SumOf.f]; exact (impl_SumOf.te _ k a0).trans (bn (fun t1 => rfl))
theorem impl_SumOf.con (k : Nat) (a0 : ByteArray) (r) (h : impl_SumOf.f k a0 = some r) : Contract Try.prog kit 84 [.sc (.string a0)] [] (impl_SumOf.e r).1 (impl_SumOf.e r).2.1 (impl_SumOf.e r).2.2 :=
  con_okG kitOk mix (fun k => (CtxOk.cons (impl_SumMore.xok k) CtxOk.nil)) (impl_SumOf.oke k a0) h (by kernel_rfl) (by kernel_rfl) (by kernel_rfl) rfl (by kernel_rfl) rfl rfl
noncomputable def impl_SumOf.x (k : Nat) : X := fun ins bs κ => match ins, bs with
  | [.sc (.string a0)], [] => (impl_SumOf.f k a0).bind fun r => κ (impl_SumOf.e r).1 (impl_SumOf.e r).2.1 (impl_SumOf.e r).2.2
  | _, _ => none
theorem impl_SumOf.xok (k : Nat) : XOk 84 (impl_SumOf.x k) := by
  intro ins bs κ res h
  unfold impl_SumOf.x at h
  split at h
  · obtain ⟨r, hr, h⟩ := Option.bind_eq_some_iff.1 h
    exact ⟨_, _, _, impl_SumOf.con k _ r hr, h⟩
  · cases h

/-! ### impl_Sealed: function 71 -/
noncomputable def impl_Sealed.sp : Nat → Option (Spec Ty) := fun r => none
noncomputable def impl_Sealed.en : Option (Spec Ty) := none
noncomputable def impl_Sealed.ctx (k : Nat) : Ctx Ty D := (cons 84 (impl_SumOf.x k) (fun _ _ _ _ => none))
noncomputable def impl_Sealed.f (k : Nat) (a0 : ByteArray) : Option (ByteArray × Bool) := (if (a0.size : Int) > 20000 then (some ((⟨#[]⟩ : ByteArray), false)) else ((impl_SumOf.f k a0).bind fun t1 => (if a0.size + (strOfNums ([(Go.IntKind.wrap .u8 ((Int.fdiv t1 16777216))), (Go.IntKind.wrap .u8 ((Int.fdiv t1 65536))), (Go.IntKind.wrap .u8 ((Int.fdiv t1 256))), (Go.IntKind.wrap .u8 (t1))] : List Int)).size ≤ 9223372036854775807 then (some ((a0 ++ (strOfNums ([(Go.IntKind.wrap .u8 ((Int.fdiv t1 16777216))), (Go.IntKind.wrap .u8 ((Int.fdiv t1 65536))), (Go.IntKind.wrap .u8 ((Int.fdiv t1 256))), (Go.IntKind.wrap .u8 (t1))] : List Int))), true)) else none)))
noncomputable def impl_Sealed.e (r : ByteArray × Bool) : Res Ty D := (.tu [.sc (.string r.1), .sc (.bool r.2)], [], [])
noncomputable abbrev impl_Sealed.g (rec : List Item → St Ty D → R) (k : Nat) := go1 Try.f71 (impl_Sealed.ctx k) impl_Sealed.sp 0 impl_Sealed.en rec
set_option maxRecDepth 100000 in
theorem impl_Sealed.te (rec : List Item → St Ty D → R) (k : Nat) (a0 : ByteArray) : impl_Sealed.g rec k [.code (body Try.f71)] (startSt [.sc (.string a0)] []) =
  bif decide ((a0.size : Int) > 20000) then some (impl_Sealed.e ((⟨#[]⟩ : ByteArray), false)) else (impl_SumOf.f k a0).bind fun t1 => bif decide (a0.size + (strOfNums ([(Go.IntKind.wrap .u8 ((Int.fdiv t1 16777216))), (Go.IntKind.wrap .u8 ((Int.fdiv t1 65536))), (Go.IntKind.wrap .u8 ((Int.fdiv t1 256))), (Go.IntKind.wrap .u8 (t1))] : List Int)).size ≤ 9223372036854775807) then some (impl_Sealed.e ((a0 ++ (strOfNums ([(Go.IntKind.wrap .u8 ((Int.fdiv t1 16777216))), (Go.IntKind.wrap .u8 ((Int.fdiv t1 65536))), (Go.IntKind.wrap .u8 ((Int.fdiv t1 256))), (Go.IntKind.wrap .u8 (t1))] : List Int))), true)) else none := by kernel_rfl
set_option maxRecDepth 100000 in
theorem impl_Sealed.oke (k : Nat) (a0 : ByteArray) : goF Try.f71 impl_Sealed.ctx impl_Sealed.sp 0 impl_Sealed.en (k + 1) [.code (body Try.f71)] (startSt [.sc (.string a0)] []) = (impl_Sealed.f k a0).map impl_Sealed.e := by
  rw [impl_Sealed.f]; exact (impl_Sealed.te _ k a0).trans (cd rfl (bn (fun t1 => (cd rfl rfl))))
theorem impl_Sealed.con (k : Nat) (a0 : ByteArray) (r) (h : impl_Sealed.f k a0 = some r) : Contract Try.prog kit 71 [.sc (.string a0)] [] (impl_Sealed.e r).1 (impl_Sealed.e r).2.1 (impl_Sealed.e r).2.2 :=
  con_okG kitOk mix (fun k => (CtxOk.cons (impl_SumOf.xok k) CtxOk.nil)) (impl_Sealed.oke k a0) h (by kernel_rfl) (by kernel_rfl) (by kernel_rfl) rfl (by kernel_rfl) rfl rfl
noncomputable def impl_Sealed.x (k : Nat) : X := fun ins bs κ => match ins, bs with
  | [.sc (.string a0)], [] => (impl_Sealed.f k a0).bind fun r => κ (impl_Sealed.e r).1 (impl_Sealed.e r).2.1 (impl_Sealed.e r).2.2
  | _, _ => none
theorem impl_Sealed.xok (k : Nat) : XOk 71 (impl_Sealed.x k) := by
  intro ins bs κ res h
  unfold impl_Sealed.x at h
  split at h
  · obtain ⟨r, hr, h⟩ := Option.bind_eq_some_iff.1 h
    exact ⟨_, _, _, impl_Sealed.con k _ r hr, h⟩
  · cases h

/-! ### impl_Unsealed: function 60 -/
noncomputable def impl_Unsealed.sp : Nat → Option (Spec Ty) := fun r => none
noncomputable def impl_Unsealed.en : Option (Spec Ty) := none
noncomputable def impl_Unsealed.ctx (k : Nat) : Ctx Ty D := (cons 71 (impl_Sealed.x k) (fun _ _ _ _ => none))
noncomputable def impl_Unsealed.f (k : Nat) (a0 : ByteArray) : Option (ByteArray × Bool) := (if (a0.size : Int) < 4 then (some ((⟨#[]⟩ : ByteArray), false)) else (if 0 ≤ (w64 ((a0.size : Int) - 4)) then (if (w64 ((a0.size : Int) - 4)) ≤ (a0.size : Int) then ((impl_Sealed.f k (a0.extract 0 ((w64 ((a0.size : Int) - 4)).toNat))).bind fun t1 => (if t1.2 = true then (if (seq t1.1 a0) = true then (some ((a0.extract 0 ((w64 ((a0.size : Int) - 4)).toNat)), true)) else (some ((⟨#[]⟩ : ByteArray), false))) else (some ((⟨#[]⟩ : ByteArray), false)))) else none) else none))
noncomputable def impl_Unsealed.e (r : ByteArray × Bool) : Res Ty D := (.tu [.sc (.string r.1), .sc (.bool r.2)], [], [])
noncomputable abbrev impl_Unsealed.g (rec : List Item → St Ty D → R) (k : Nat) := go1 Try.f60 (impl_Unsealed.ctx k) impl_Unsealed.sp 0 impl_Unsealed.en rec
set_option maxRecDepth 100000 in
theorem impl_Unsealed.te (rec : List Item → St Ty D → R) (k : Nat) (a0 : ByteArray) : impl_Unsealed.g rec k [.code (body Try.f60)] (startSt [.sc (.string a0)] []) =
  bif decide ((a0.size : Int) < 4) then some (impl_Unsealed.e ((⟨#[]⟩ : ByteArray), false)) else bif decide (0 ≤ (w64 ((a0.size : Int) - 4))) then bif decide ((w64 ((a0.size : Int) - 4)) ≤ (a0.size : Int)) then (impl_Sealed.f k (a0.extract 0 ((w64 ((a0.size : Int) - 4)).toNat))).bind fun t1 => bif !t1.2 then some (impl_Unsealed.e ((⟨#[]⟩ : ByteArray), false)) else bif !(seq t1.1 a0) then some (impl_Unsealed.e ((⟨#[]⟩ : ByteArray), false)) else some (impl_Unsealed.e ((a0.extract 0 ((w64 ((a0.size : Int) - 4)).toNat)), true)) else none else none := by kernel_rfl
set_option maxRecDepth 100000 in
theorem impl_Unsealed.oke (k : Nat) (a0 : ByteArray) : goF Try.f60 impl_Unsealed.ctx impl_Unsealed.sp 0 impl_Unsealed.en (k + 1) [.code (body Try.f60)] (startSt [.sc (.string a0)] []) = (impl_Unsealed.f k a0).map impl_Unsealed.e := by
  rw [impl_Unsealed.f]; exact (impl_Unsealed.te _ k a0).trans (cd rfl (cd (cd (bn (fun t1 => (nb rfl (nb rfl rfl)))) rfl) rfl))
theorem impl_Unsealed.con (k : Nat) (a0 : ByteArray) (r) (h : impl_Unsealed.f k a0 = some r) : Contract Try.prog kit 60 [.sc (.string a0)] [] (impl_Unsealed.e r).1 (impl_Unsealed.e r).2.1 (impl_Unsealed.e r).2.2 :=
  con_okG kitOk mix (fun k => (CtxOk.cons (impl_Sealed.xok k) CtxOk.nil)) (impl_Unsealed.oke k a0) h (by kernel_rfl) (by kernel_rfl) (by kernel_rfl) rfl (by kernel_rfl) rfl rfl
noncomputable def impl_Unsealed.x (k : Nat) : X := fun ins bs κ => match ins, bs with
  | [.sc (.string a0)], [] => (impl_Unsealed.f k a0).bind fun r => κ (impl_Unsealed.e r).1 (impl_Unsealed.e r).2.1 (impl_Unsealed.e r).2.2
  | _, _ => none
theorem impl_Unsealed.xok (k : Nat) : XOk 60 (impl_Unsealed.x k) := by
  intro ins bs κ res h
  unfold impl_Unsealed.x at h
  split at h
  · obtain ⟨r, hr, h⟩ := Option.bind_eq_some_iff.1 h
    exact ⟨_, _, _, impl_Unsealed.con k _ r hr, h⟩
  · cases h

/-! ### impl_ReadVar: function 61 -/
noncomputable def impl_ReadVar.sp : Nat → Option (Spec Ty) := fun r => bif Nat.beq r 3 then some ⟨[(0, .keep), (1, .keep), (7, .keep), (8, .keep)], []⟩ else none
noncomputable def impl_ReadVar.en : Option (Spec Ty) := none
noncomputable def impl_ReadVar.s3 (x0 : ByteArray) (x1 : Int) (x7 : Int) (x8 : Int) : St Ty D := ⟨(Env.put (Env.put (Env.put (Env.put E (some 0) (.sc (.string x0))) (some 1) (.sc (.int .i64 x1))) (some 7) (.sc (.int .i64 x7))) (some 8) (.sc (.int .i64 x8))), H0, 1000⟩
noncomputable def impl_ReadVar.ctx (k : Nat) : Ctx Ty D := (fun _ _ _ _ => none)
noncomputable def impl_ReadVar.c3 : Nat → ByteArray → Int → Int → Int → Option (Int × Int × Bool)
  | 0, _, _, _, _ => none
  | k + 1, x0, x1, x7, x8 => (if x8 < 5 then (if x1 ≥ 0 then (if x1 < (w64 ((x0.size : Int) - x8)) then (if 0 ≤ (w64 (x1 + x8)) then (if (w64 (x1 + x8)) < (x0.size : Int) then (if 0 ≤ (w64 (7 * x8)) then (if (w64 ((bt x0 (w64 (x1 + x8))))) ≥ 128 then (impl_ReadVar.c3 k x0 x1 (w64 (x7 + (w64 ((Int.tmod (w64 ((bt x0 (w64 (x1 + x8))))) 128) * 2 ^ (min (w64 (7 * x8)).toNat 64))))) (w64 (x8 + 1))) else (if (w64 ((bt x0 (w64 (x1 + x8))))) = 0 then (if x8 > 0 then (some (0, 0, false)) else (if (w64 (x7 + (w64 ((Int.tmod (w64 ((bt x0 (w64 (x1 + x8))))) 128) * 2 ^ (min (w64 (7 * x8)).toNat 64))))) > 1000000000 then (some (0, 0, false)) else (some ((w64 (x7 + (w64 ((Int.tmod (w64 ((bt x0 (w64 (x1 + x8))))) 128) * 2 ^ (min (w64 (7 * x8)).toNat 64))))), (w64 ((w64 (x1 + x8)) + 1)), true)))) else (if (w64 (x7 + (w64 ((Int.tmod (w64 ((bt x0 (w64 (x1 + x8))))) 128) * 2 ^ (min (w64 (7 * x8)).toNat 64))))) > 1000000000 then (some (0, 0, false)) else (some ((w64 (x7 + (w64 ((Int.tmod (w64 ((bt x0 (w64 (x1 + x8))))) 128) * 2 ^ (min (w64 (7 * x8)).toNat 64))))), (w64 ((w64 (x1 + x8)) + 1)), true))))) else none) else none) else none) else (some (0, 0, false))) else (some (0, 0, false))) else (some (0, 0, false)))
noncomputable def impl_ReadVar.f (k : Nat) (a0 : ByteArray) (a1 : Int) : Option (Int × Int × Bool) := (impl_ReadVar.c3 k a0 a1 0 0)
noncomputable def impl_ReadVar.e (r : Int × Int × Bool) : Res Ty D := (.tu [.sc (.int .i64 r.1), .sc (.int .i64 r.2.1), .sc (.bool r.2.2)], [], [])
noncomputable abbrev impl_ReadVar.g (rec : List Item → St Ty D → R) (k : Nat) := go1 Try.f61 (impl_ReadVar.ctx k) impl_ReadVar.sp 0 impl_ReadVar.en rec
set_option maxRecDepth 100000 in
theorem impl_ReadVar.t3 (rec : List Item → St Ty D → R) (k : Nat) (x0 : ByteArray) (x1 : Int) (x7 : Int) (x8 : Int) : impl_ReadVar.g rec k (td Try.f61 3) (impl_ReadVar.s3 x0 x1 x7 x8) =
  bif decide (x8 < 5) then bif decide (x1 ≥ 0) then bif decide (x1 < (w64 ((x0.size : Int) - x8))) then bif decide (0 ≤ (w64 (x1 + x8))) then bif decide ((w64 (x1 + x8)) < (x0.size : Int)) then bif decide (0 ≤ (w64 (7 * x8))) then bif decide ((w64 ((bt x0 (w64 (x1 + x8))))) ≥ 128) then rec (td Try.f61 3) (impl_ReadVar.s3 x0 x1 (w64 (x7 + (w64 ((Int.tmod (w64 ((bt x0 (w64 (x1 + x8))))) 128) * 2 ^ (min (w64 (7 * x8)).toNat 64))))) (w64 (x8 + 1))) else bif decide ((w64 ((bt x0 (w64 (x1 + x8))))) = 0) then bif decide (x8 > 0) then some (impl_ReadVar.e (0, 0, false)) else bif decide ((w64 (x7 + (w64 ((Int.tmod (w64 ((bt x0 (w64 (x1 + x8))))) 128) * 2 ^ (min (w64 (7 * x8)).toNat 64))))) > 1000000000) then some (impl_ReadVar.e (0, 0, false)) else some (impl_ReadVar.e ((w64 (x7 + (w64 ((Int.tmod (w64 ((bt x0 (w64 (x1 + x8))))) 128) * 2 ^ (min (w64 (7 * x8)).toNat 64))))), (w64 ((w64 (x1 + x8)) + 1)), true)) else bif decide ((w64 (x7 + (w64 ((Int.tmod (w64 ((bt x0 (w64 (x1 + x8))))) 128) * 2 ^ (min (w64 (7 * x8)).toNat 64))))) > 1000000000) then some (impl_ReadVar.e (0, 0, false)) else some (impl_ReadVar.e ((w64 (x7 + (w64 ((Int.tmod (w64 ((bt x0 (w64 (x1 + x8))))) 128) * 2 ^ (min (w64 (7 * x8)).toNat 64))))), (w64 ((w64 (x1 + x8)) + 1)), true)) else none else none else none else some (impl_ReadVar.e (0, 0, false)) else some (impl_ReadVar.e (0, 0, false)) else some (impl_ReadVar.e (0, 0, false)) := by kernel_rfl
set_option maxRecDepth 100000 in
theorem impl_ReadVar.te (rec : List Item → St Ty D → R) (k : Nat) (a0 : ByteArray) (a1 : Int) : impl_ReadVar.g rec k [.code (body Try.f61)] (startSt [.sc (.string a0), .sc (.int .i64 a1)] []) =
  rec (td Try.f61 3) (impl_ReadVar.s3 a0 a1 0 0) := by kernel_rfl
set_option maxRecDepth 100000 in
theorem impl_ReadVar.ok : ∀ k : Nat, (∀ (x0 : ByteArray) (x1 : Int) (x7 : Int) (x8 : Int), goF Try.f61 impl_ReadVar.ctx impl_ReadVar.sp 0 impl_ReadVar.en k (td Try.f61 3) (impl_ReadVar.s3 x0 x1 x7 x8) = (impl_ReadVar.c3 k x0 x1 x7 x8).map impl_ReadVar.e)
  | 0 => fun _ _ _ _ => rfl
  | k + 1 => by
    have ih := impl_ReadVar.ok k
    have i3 := ih
    intro x0 x1 x7 x8; rw [impl_ReadVar.c3]; exact (impl_ReadVar.t3 _ k x0 x1 x7 x8).trans (cd (cd (cd (cd (cd (cd (cd (i3 _ _ _ _) (cd (cd rfl (cd rfl rfl)) (cd rfl rfl))) rfl) rfl) rfl) rfl) rfl) rfl)
set_option maxRecDepth 100000 in
theorem impl_ReadVar.oke (k : Nat) (a0 : ByteArray) (a1 : Int) : goF Try.f61 impl_ReadVar.ctx impl_ReadVar.sp 0 impl_ReadVar.en (k + 1) [.code (body Try.f61)] (startSt [.sc (.string a0), .sc (.int .i64 a1)] []) = (impl_ReadVar.f k a0 a1).map impl_ReadVar.e := by
  have i3 := impl_ReadVar.ok k
  rw [impl_ReadVar.f]; exact (impl_ReadVar.te _ k a0 a1).trans (i3 _ _ _ _)
theorem impl_ReadVar.con (k : Nat) (a0 : ByteArray) (a1 : Int) (r) (h : impl_ReadVar.f k a0 a1 = some r) : Contract Try.prog kit 61 [.sc (.string a0), .sc (.int .i64 a1)] [] (impl_ReadVar.e r).1 (impl_ReadVar.e r).2.1 (impl_ReadVar.e r).2.2 :=
  con_okG kitOk mix (fun k => CtxOk.nil) (impl_ReadVar.oke k a0 a1) h (by kernel_rfl) (by kernel_rfl) (by kernel_rfl) rfl (by kernel_rfl) rfl rfl
noncomputable def impl_ReadVar.x (k : Nat) : X := fun ins bs κ => match ins, bs with
  | [.sc (.string a0), .sc (.int .i64 a1)], [] => (impl_ReadVar.f k a0 a1).bind fun r => κ (impl_ReadVar.e r).1 (impl_ReadVar.e r).2.1 (impl_ReadVar.e r).2.2
  | _, _ => none
theorem impl_ReadVar.xok (k : Nat) : XOk 61 (impl_ReadVar.x k) := by
  intro ins bs κ res h
  unfold impl_ReadVar.x at h
  split at h
  · obtain ⟨r, hr, h⟩ := Option.bind_eq_some_iff.1 h
    exact ⟨_, _, _, impl_ReadVar.con k _ _ r hr, h⟩
  · cases h

/-! ### impl_in: function 49 -/
noncomputable def impl_in.sp : Nat → Option (Spec Ty) := fun r => none
noncomputable def impl_in.en : Option (Spec Ty) := none
noncomputable def impl_in.ctx (k : Nat) : Ctx Ty D := (fun _ _ _ _ => none)
noncomputable def impl_in.f (k : Nat) (a0 : Int) (a1 : Int) (a2 : Int) : Option (Bool) := (if a0 ≥ a1 then (some ((decide (a0 ≤ a2)))) else (some (false)))
noncomputable def impl_in.e (r : Bool) : Res Ty D := (.sc (.bool r), [], [])
noncomputable abbrev impl_in.g (rec : List Item → St Ty D → R) (k : Nat) := go1 Try.f49 (impl_in.ctx k) impl_in.sp 0 impl_in.en rec
set_option maxRecDepth 100000 in
theorem impl_in.te (rec : List Item → St Ty D → R) (k : Nat) (a0 : Int) (a1 : Int) (a2 : Int) : impl_in.g rec k [.code (body Try.f49)] (startSt [.sc (.int .i64 a0), .sc (.int .i64 a1), .sc (.int .i64 a2)] []) =
  bif decide (a0 ≥ a1) then some (impl_in.e ((decide (a0 ≤ a2)))) else some (impl_in.e (false)) := by kernel_rfl
set_option maxRecDepth 100000 in
theorem impl_in.oke (k : Nat) (a0 : Int) (a1 : Int) (a2 : Int) : goF Try.f49 impl_in.ctx impl_in.sp 0 impl_in.en (k + 1) [.code (body Try.f49)] (startSt [.sc (.int .i64 a0), .sc (.int .i64 a1), .sc (.int .i64 a2)] []) = (impl_in.f k a0 a1 a2).map impl_in.e := by
  rw [impl_in.f]; exact (impl_in.te _ k a0 a1 a2).trans (cd rfl rfl)
theorem impl_in.con (k : Nat) (a0 : Int) (a1 : Int) (a2 : Int) (r) (h : impl_in.f k a0 a1 a2 = some r) : Contract Try.prog kit 49 [.sc (.int .i64 a0), .sc (.int .i64 a1), .sc (.int .i64 a2)] [] (impl_in.e r).1 (impl_in.e r).2.1 (impl_in.e r).2.2 :=
  con_okG kitOk mix (fun k => CtxOk.nil) (impl_in.oke k a0 a1 a2) h (by kernel_rfl) (by kernel_rfl) (by kernel_rfl) rfl (by kernel_rfl) rfl rfl
noncomputable def impl_in.x (k : Nat) : X := fun ins bs κ => match ins, bs with
  | [.sc (.int .i64 a0), .sc (.int .i64 a1), .sc (.int .i64 a2)], [] => (impl_in.f k a0 a1 a2).bind fun r => κ (impl_in.e r).1 (impl_in.e r).2.1 (impl_in.e r).2.2
  | _, _ => none
theorem impl_in.xok (k : Nat) : XOk 49 (impl_in.x k) := by
  intro ins bs κ res h
  unfold impl_in.x at h
  split at h
  · obtain ⟨r, hr, h⟩ := Option.bind_eq_some_iff.1 h
    exact ⟨_, _, _, impl_in.con k _ _ _ r hr, h⟩
  · cases h
end Go.Proofs.Ytbbfkodckpfjcaa.M2

/- Plain runs of functions: each is a plain Lean function, and keeps its contract. Written by a program of this session. -/
namespace Go.Proofs.Ytbbfkodckpfjcaa.M2
open Go Go.Proofs.Ytbbfkodckpfjcaa.PK
set_option linter.unusedVariables false
set_option linter.unusedSimpArgs false
set_option maxHeartbeats 4000000
/-! ### impl_PageOk: function 62 -/
noncomputable def impl_PageOk.sp : Nat → Option (Spec Ty) := fun r => none
noncomputable def impl_PageOk.en : Option (Spec Ty) := none
noncomputable def impl_PageOk.ctx (k : Nat) : Ctx Ty D := (cons 49 (impl_in.x k) (fun _ _ _ _ => none))
noncomputable def impl_PageOk.f (k : Nat) (a0_0 : Int) (a0_1 : Int) (a0_2 : Int) (a0_3 : Int) (a0_4 : Int) (a0_5 : ByteArray) : Option (Bool) := ((impl_in.f k a0_1 1 1000000000).bind fun t1 => (if t1 = true then ((impl_in.f k a0_2 1 1000000000).bind fun t2 => (if t2 = true then ((impl_in.f k a0_4 1 9).bind fun t3 => (if t3 = true then ((impl_in.f k a0_3 0 (w64 (a0_4 - 1))).bind fun t4 => (if t4 = true then (if (a0_5.size : Int) > 90 then (some (false)) else (if a0_0 = 2 then (some (true)) else (if a0_0 = 1 then (some ((decide (a0_4 = 1)))) else (some (false))))) else (some (false)))) else (some (false)))) else (some (false)))) else (some (false))))
noncomputable def impl_PageOk.e (r : Bool) : Res Ty D := (.sc (.bool r), [], [])
noncomputable abbrev impl_PageOk.g (rec : List Item → St Ty D → R) (k : Nat) := go1 Try.f62 (impl_PageOk.ctx k) impl_PageOk.sp 0 impl_PageOk.en rec
set_option maxRecDepth 100000 in
theorem impl_PageOk.te (rec : List Item → St Ty D → R) (k : Nat) (a0_0 : Int) (a0_1 : Int) (a0_2 : Int) (a0_3 : Int) (a0_4 : Int) (a0_5 : ByteArray) : impl_PageOk.g rec k [.code (body Try.f62)] (startSt [.ag [.sc (.int .i64 a0_0), .sc (.int .i64 a0_1), .sc (.int .i64 a0_2), .sc (.int .i64 a0_3), .sc (.int .i64 a0_4), .sc (.string a0_5)]] []) =
  (impl_in.f k a0_1 1 1000000000).bind fun t1 => bif !t1 then some (impl_PageOk.e (false)) else (impl_in.f k a0_2 1 1000000000).bind fun t2 => bif !t2 then some (impl_PageOk.e (false)) else (impl_in.f k a0_4 1 9).bind fun t3 => bif !t3 then some (impl_PageOk.e (false)) else (impl_in.f k a0_3 0 (w64 (a0_4 - 1))).bind fun t4 => bif !t4 then some (impl_PageOk.e (false)) else bif decide ((a0_5.size : Int) > 90) then some (impl_PageOk.e (false)) else bif decide (a0_0 = 2) then some (impl_PageOk.e (true)) else bif decide (a0_0 = 1) then some (impl_PageOk.e ((decide (a0_4 = 1)))) else some (impl_PageOk.e (false)) := by kernel_rfl
set_option maxRecDepth 100000 in
theorem impl_PageOk.oke (k : Nat) (a0_0 : Int) (a0_1 : Int) (a0_2 : Int) (a0_3 : Int) (a0_4 : Int) (a0_5 : ByteArray) : goF Try.f62 impl_PageOk.ctx impl_PageOk.sp 0 impl_PageOk.en (k + 1) [.code (body Try.f62)] (startSt [.ag [.sc (.int .i64 a0_0), .sc (.int .i64 a0_1), .sc (.int .i64 a0_2), .sc (.int .i64 a0_3), .sc (.int .i64 a0_4), .sc (.string a0_5)]] []) = (impl_PageOk.f k a0_0 a0_1 a0_2 a0_3 a0_4 a0_5).map impl_PageOk.e := by
  rw [impl_PageOk.f]; exact (impl_PageOk.te _ k a0_0 a0_1 a0_2 a0_3 a0_4 a0_5).trans (bn (fun t1 => (nb rfl (bn (fun t2 => (nb rfl (bn (fun t3 => (nb rfl (bn (fun t4 => (nb rfl (cd rfl (cd rfl (cd rfl rfl)))))))))))))))
theorem impl_PageOk.con (k : Nat) (a0_0 : Int) (a0_1 : Int) (a0_2 : Int) (a0_3 : Int) (a0_4 : Int) (a0_5 : ByteArray) (r) (h : impl_PageOk.f k a0_0 a0_1 a0_2 a0_3 a0_4 a0_5 = some r) : Contract Try.prog kit 62 [.ag [.sc (.int .i64 a0_0), .sc (.int .i64 a0_1), .sc (.int .i64 a0_2), .sc (.int .i64 a0_3), .sc (.int .i64 a0_4), .sc (.string a0_5)]] [] (impl_PageOk.e r).1 (impl_PageOk.e r).2.1 (impl_PageOk.e r).2.2 :=
  con_okG kitOk mix (fun k => (CtxOk.cons (impl_in.xok k) CtxOk.nil)) (impl_PageOk.oke k a0_0 a0_1 a0_2 a0_3 a0_4 a0_5) h (by kernel_rfl) (by kernel_rfl) (by kernel_rfl) rfl (by kernel_rfl) rfl rfl
noncomputable def impl_PageOk.x (k : Nat) : X := fun ins bs κ => match ins, bs with
  | [.ag [.sc (.int .i64 a0_0), .sc (.int .i64 a0_1), .sc (.int .i64 a0_2), .sc (.int .i64 a0_3), .sc (.int .i64 a0_4), .sc (.string a0_5)]], [] => (impl_PageOk.f k a0_0 a0_1 a0_2 a0_3 a0_4 a0_5).bind fun r => κ (impl_PageOk.e r).1 (impl_PageOk.e r).2.1 (impl_PageOk.e r).2.2
  | _, _ => none
theorem impl_PageOk.xok (k : Nat) : XOk 62 (impl_PageOk.x k) := by
  intro ins bs κ res h
  unfold impl_PageOk.x at h
  split at h
  · obtain ⟨r, hr, h⟩ := Option.bind_eq_some_iff.1 h
    exact ⟨_, _, _, impl_PageOk.con k _ _ _ _ _ _ r hr, h⟩
  · cases h

/-! ### impl_ReadPage: function 42 -/
noncomputable def impl_ReadPage.sp : Nat → Option (Spec Ty) := fun r => bif Nat.beq r 7 then some ⟨[(2, .box [.keep, .keep, .keep, .keep, .keep, .keep]), (4, .keep), (6, .arr .t3), (7, .keep), (25, .keep)], []⟩ else none
noncomputable def impl_ReadPage.en : Option (Spec Ty) := none
noncomputable def impl_ReadPage.s7 (x4 : ByteArray) (x7 : Int) (x25 : Int) (h64_0 : Int) (h64_1 : Int) (h64_2 : Int) (h64_3 : Int) (h64_4 : Int) (h64_5 : ByteArray) (h65 : List Int) : St Ty D := ⟨(Env.put (Env.put (Env.put (Env.put (Env.put E (some 2) (.pt 64 0 0)) (some 4) (.sc (.string x4))) (some 6) (.pt 65 0 0)) (some 7) (.sc (.int .i64 x7))) (some 25) (.sc (.int .i64 x25))), Heap.put H0 [(64, some (.box [.sc (.int .i64 h64_0), .sc (.int .i64 h64_1), .sc (.int .i64 h64_2), .sc (.int .i64 h64_3), .sc (.int .i64 h64_4), .sc (.string h64_5)])), (65, some (.rowb .t3 h65 0))], 1000⟩
noncomputable def impl_ReadPage.ctx (k : Nat) : Ctx Ty D := (cons 60 (impl_Unsealed.x k) (cons 61 (impl_ReadVar.x k) (cons 62 (impl_PageOk.x k) (fun _ _ _ _ => none))))
noncomputable def impl_ReadPage.c7 : Nat → ByteArray → Int → Int → Int → Int → Int → Int → Int → ByteArray → (List Int) → Option (Int × Int × Int × Int × Int × ByteArray × Bool)
  | 0, _, _, _, _, _, _, _, _, _, _ => none
  | k + 1, x4, x7, x25, h64_0, h64_1, h64_2, h64_3, h64_4, h64_5, h65 => (if x25 < 4 then ((impl_ReadVar.f k x4 x7).bind fun t2 => (if t2.2.2 = true then (if (Nat.beq 4 h65.length) = true then (if 0 ≤ x25 then (if x25 < (h65.length : Int) then (impl_ReadPage.c7 k x4 t2.2.1 (w64 (x25 + 1)) h64_0 h64_1 h64_2 h64_3 h64_4 h64_5 (h65.set x25.toNat t2.1)) else none) else none) else none) else (some (0, 0, 0, 0, 0, (⟨#[]⟩ : ByteArray), false)))) else (if 0 < (x4.size : Int) then (if (Nat.beq 4 h65.length) = true then (if 0 < (h65.length : Int) then (if (Nat.beq 4 h65.length) = true then (if 1 < (h65.length : Int) then (if (Nat.beq 4 h65.length) = true then (if 2 < (h65.length : Int) then (if (Nat.beq 4 h65.length) = true then (if 3 < (h65.length : Int) then (if 0 ≤ x7 then (if x7 ≤ (x4.size : Int) then ((impl_PageOk.f k (w64 ((bt x4 0))) (rd_T3 h65 0) (rd_T3 h65 1) (rd_T3 h65 2) (rd_T3 h65 3) (x4.extract x7.toNat x4.size)).bind fun t3 => (if t3 = true then (some ((w64 ((bt x4 0))), (rd_T3 h65 0), (rd_T3 h65 1), (rd_T3 h65 2), (rd_T3 h65 3), (x4.extract x7.toNat x4.size), true)) else (some (0, 0, 0, 0, 0, (⟨#[]⟩ : ByteArray), false)))) else none) else none) else none) else none) else none) else none) else none) else none) else none) else none) else none))
noncomputable def impl_ReadPage.f (k : Nat) (a0 : ByteArray) : Option (Int × Int × Int × Int × Int × ByteArray × Bool) := ((impl_Unsealed.f k a0).bind fun t1 => (if t1.2 = true then (if (seq t1.1 (⟨#[]⟩ : ByteArray)) = true then (some (0, 0, 0, 0, 0, (⟨#[]⟩ : ByteArray), false)) else (impl_ReadPage.c7 k t1.1 1 0 0 0 0 0 0 (⟨#[]⟩ : ByteArray) (List.replicate 4 z3))) else (some (0, 0, 0, 0, 0, (⟨#[]⟩ : ByteArray), false))))
noncomputable def impl_ReadPage.e (r : Int × Int × Int × Int × Int × ByteArray × Bool) : Res Ty D := (.tu [.ag [.sc (.int .i64 r.1), .sc (.int .i64 r.2.1), .sc (.int .i64 r.2.2.1), .sc (.int .i64 r.2.2.2.1), .sc (.int .i64 r.2.2.2.2.1), .sc (.string r.2.2.2.2.2.1)], .sc (.bool r.2.2.2.2.2.2)], [], [])
noncomputable abbrev impl_ReadPage.g (rec : List Item → St Ty D → R) (k : Nat) := go1 Try.f42 (impl_ReadPage.ctx k) impl_ReadPage.sp 0 impl_ReadPage.en rec
set_option maxRecDepth 100000 in
theorem impl_ReadPage.t7 (rec : List Item → St Ty D → R) (k : Nat) (x4 : ByteArray) (x7 : Int) (x25 : Int) (h64_0 : Int) (h64_1 : Int) (h64_2 : Int) (h64_3 : Int) (h64_4 : Int) (h64_5 : ByteArray) (h65 : List Int) : impl_ReadPage.g rec k (td Try.f42 7) (impl_ReadPage.s7 x4 x7 x25 h64_0 h64_1 h64_2 h64_3 h64_4 h64_5 h65) =
  bif decide (x25 < 4) then (impl_ReadVar.f k x4 x7).bind fun t2 => bif !t2.2.2 then some (impl_ReadPage.e (0, 0, 0, 0, 0, (⟨#[]⟩ : ByteArray), false)) else bif (Nat.beq 4 h65.length) then bif decide (0 ≤ x25) then bif decide (x25 < (h65.length : Int)) then rec (td Try.f42 7) (impl_ReadPage.s7 x4 t2.2.1 (w64 (x25 + 1)) h64_0 h64_1 h64_2 h64_3 h64_4 h64_5 (h65.set x25.toNat t2.1)) else none else none else none else bif decide (0 < (x4.size : Int)) then bif (Nat.beq 4 h65.length) then bif decide (0 < (h65.length : Int)) then bif (Nat.beq 4 h65.length) then bif decide (1 < (h65.length : Int)) then bif (Nat.beq 4 h65.length) then bif decide (2 < (h65.length : Int)) then bif (Nat.beq 4 h65.length) then bif decide (3 < (h65.length : Int)) then bif decide (0 ≤ x7) then bif decide (x7 ≤ (x4.size : Int)) then (impl_PageOk.f k (w64 ((bt x4 0))) (rd_T3 h65 0) (rd_T3 h65 1) (rd_T3 h65 2) (rd_T3 h65 3) (x4.extract x7.toNat x4.size)).bind fun t3 => bif !t3 then some (impl_ReadPage.e (0, 0, 0, 0, 0, (⟨#[]⟩ : ByteArray), false)) else some (impl_ReadPage.e ((w64 ((bt x4 0))), (rd_T3 h65 0), (rd_T3 h65 1), (rd_T3 h65 2), (rd_T3 h65 3), (x4.extract x7.toNat x4.size), true)) else none else none else none else none else none else none else none else none else none else none else none := by kernel_rfl
set_option maxRecDepth 100000 in
theorem impl_ReadPage.te (rec : List Item → St Ty D → R) (k : Nat) (a0 : ByteArray) : impl_ReadPage.g rec k [.code (body Try.f42)] (startSt [.sc (.string a0)] []) =
  (impl_Unsealed.f k a0).bind fun t1 => bif !t1.2 then some (impl_ReadPage.e (0, 0, 0, 0, 0, (⟨#[]⟩ : ByteArray), false)) else bif (seq t1.1 (⟨#[]⟩ : ByteArray)) then some (impl_ReadPage.e (0, 0, 0, 0, 0, (⟨#[]⟩ : ByteArray), false)) else rec (td Try.f42 7) (impl_ReadPage.s7 t1.1 1 0 0 0 0 0 0 (⟨#[]⟩ : ByteArray) (List.replicate 4 z3)) := by kernel_rfl
set_option maxRecDepth 100000 in
theorem impl_ReadPage.ok : ∀ k : Nat, (∀ (x4 : ByteArray) (x7 : Int) (x25 : Int) (h64_0 : Int) (h64_1 : Int) (h64_2 : Int) (h64_3 : Int) (h64_4 : Int) (h64_5 : ByteArray) (h65 : List Int), goF Try.f42 impl_ReadPage.ctx impl_ReadPage.sp 0 impl_ReadPage.en k (td Try.f42 7) (impl_ReadPage.s7 x4 x7 x25 h64_0 h64_1 h64_2 h64_3 h64_4 h64_5 h65) = (impl_ReadPage.c7 k x4 x7 x25 h64_0 h64_1 h64_2 h64_3 h64_4 h64_5 h65).map impl_ReadPage.e)
  | 0 => fun _ _ _ _ _ _ _ _ _ _ => rfl
  | k + 1 => by
    have ih := impl_ReadPage.ok k
    have i7 := ih
    intro x4 x7 x25 h64_0 h64_1 h64_2 h64_3 h64_4 h64_5 h65; rw [impl_ReadPage.c7]; exact (impl_ReadPage.t7 _ k x4 x7 x25 h64_0 h64_1 h64_2 h64_3 h64_4 h64_5 h65).trans (cd (bn (fun t2 => (nb rfl (cb (cd (cd (i7 _ _ _ _ _ _ _ _ _ _) rfl) rfl) rfl)))) (cd (cb (cd (cb (cd (cb (cd (cb (cd (cd (cd (bn (fun t3 => (nb rfl rfl))) rfl) rfl) rfl) rfl) rfl) rfl) rfl) rfl) rfl) rfl) rfl))
set_option maxRecDepth 100000 in
theorem impl_ReadPage.oke (k : Nat) (a0 : ByteArray) : goF Try.f42 impl_ReadPage.ctx impl_ReadPage.sp 0 impl_ReadPage.en (k + 1) [.code (body Try.f42)] (startSt [.sc (.string a0)] []) = (impl_ReadPage.f k a0).map impl_ReadPage.e := by
  have i7 := impl_ReadPage.ok k
  rw [impl_ReadPage.f]; exact (impl_ReadPage.te _ k a0).trans (bn (fun t1 => (nb rfl (cb rfl (i7 _ _ _ _ _ _ _ _ _ _)))))
theorem impl_ReadPage.con (k : Nat) (a0 : ByteArray) (r) (h : impl_ReadPage.f k a0 = some r) : Contract Try.prog kit 42 [.sc (.string a0)] [] (impl_ReadPage.e r).1 (impl_ReadPage.e r).2.1 (impl_ReadPage.e r).2.2 :=
  con_okG kitOk mix (fun k => (CtxOk.cons (impl_Unsealed.xok k) (CtxOk.cons (impl_ReadVar.xok k) (CtxOk.cons (impl_PageOk.xok k) CtxOk.nil)))) (impl_ReadPage.oke k a0) h (by kernel_rfl) (by kernel_rfl) (by kernel_rfl) rfl (by kernel_rfl) rfl rfl
noncomputable def impl_ReadPage.x (k : Nat) : X := fun ins bs κ => match ins, bs with
  | [.sc (.string a0)], [] => (impl_ReadPage.f k a0).bind fun r => κ (impl_ReadPage.e r).1 (impl_ReadPage.e r).2.1 (impl_ReadPage.e r).2.2
  | _, _ => none
theorem impl_ReadPage.xok (k : Nat) : XOk 42 (impl_ReadPage.x k) := by
  intro ins bs κ res h
  unfold impl_ReadPage.x at h
  split at h
  · obtain ⟨r, hr, h⟩ := Option.bind_eq_some_iff.1 h
    exact ⟨_, _, _, impl_ReadPage.con k _ r hr, h⟩
  · cases h

/-! ### impl_ScanAll: function 30 -/
noncomputable def impl_ScanAll.sp : Nat → Option (Spec Ty) := fun r => bif Nat.beq r 3 then some ⟨[(3, .box [.own .t45]), (11, .keep), (12, .keep), (13, .keep)], []⟩ else bif Nat.beq r 6 then some ⟨[(3, .box [.own .t45]), (4, .keep), (11, .keep), (12, .keep), (13, .keep), (19, .keep), (20, .keep), (21, .keep)], []⟩ else none
noncomputable def impl_ScanAll.en : Option (Spec Ty) := some ⟨[(2, .own .t45)], []⟩
noncomputable def impl_ScanAll.s3 (x11 : List S62) (x12 : Int) (x13 : Int) (h65 : List S45) : St Ty D := ⟨(Env.put (Env.put (Env.put (Env.put E (some 3) (.pt 64 0 0)) (some 11) (.row 0 .t62 x11)) (some 12) (.sc (.int .i64 x12))) (some 13) (.sc (.int .i64 x13))), Heap.put H0 [(65, some (.rowb .t45 h65 0)), (64, some (.box [.sl 65 none]))], 1000⟩
noncomputable def impl_ScanAll.s6 (x4 : Int) (x11 : List S62) (x12 : Int) (x13 : Int) (x19 : List S75) (x20 : Int) (x21 : Int) (h65 : List S45) : St Ty D := ⟨(Env.put (Env.put (Env.put (Env.put (Env.put (Env.put (Env.put (Env.put E (some 3) (.pt 64 0 0)) (some 4) (.sc (.int .i64 x4))) (some 11) (.row 0 .t62 x11)) (some 12) (.sc (.int .i64 x12))) (some 13) (.sc (.int .i64 x13))) (some 19) (.row 0 .t75 x19)) (some 20) (.sc (.int .i64 x20))) (some 21) (.sc (.int .i64 x21))), Heap.put H0 [(65, some (.rowb .t45 h65 0)), (64, some (.box [.sl 65 none]))], 1000⟩
noncomputable def impl_ScanAll.ctx (k : Nat) : Ctx Ty D := (cons 42 (impl_ReadPage.x k) (fun _ _ _ _ => none))
mutual
noncomputable def impl_ScanAll.c3 : Nat → (List S62) → Int → Int → (List S45) → Option ((List S45))
  | 0, _, _, _, _ => none
  | k + 1, x11, x12, x13, h65 => (if x13 < x12 then (if 0 ≤ x13 then (if x13 < (x11.length : Int) then (impl_ScanAll.c6 k x13 x11 x12 x13 ((rd_T62 x11 x13).f2) (((rd_T62 x11 x13).f2).length : Int) 0 h65) else none) else none) else (if h65.length ≤ 576460752303423488 then (some ((lsort45 h65))) else none))
noncomputable def impl_ScanAll.c6 : Nat → Int → (List S62) → Int → Int → (List S75) → Int → Int → (List S45) → Option ((List S45))
  | 0, _, _, _, _, _, _, _, _ => none
  | k + 1, x4, x11, x12, x13, x19, x20, x21, h65 => (if x21 < x20 then (if 0 ≤ x21 then (if x21 < (x19.length : Int) then ((impl_ReadPage.f k ((rd_T75 x19 x21).f1)).bind fun t1 => (if t1.2.2.2.2.2.2 = true then (if ((rd_T75 x19 x21).f0) = 1 then (if h65.length + ([(S45.mk x4 x21 (S43.mk t1.1 t1.2.1 t1.2.2.1 t1.2.2.2.1 t1.2.2.2.2.1 t1.2.2.2.2.2.1))] : List S45).length ≤ 1954687338268 then (impl_ScanAll.c6 k x4 x11 x12 x13 x19 x20 (w64 (x21 + 1)) (h65 ++ ([(S45.mk x4 x21 (S43.mk t1.1 t1.2.1 t1.2.2.1 t1.2.2.2.1 t1.2.2.2.2.1 t1.2.2.2.2.2.1))] : List S45))) else none) else (impl_ScanAll.c6 k x4 x11 x12 x13 x19 x20 (w64 (x21 + 1)) h65)) else (impl_ScanAll.c6 k x4 x11 x12 x13 x19 x20 (w64 (x21 + 1)) h65))) else none) else none) else (impl_ScanAll.c3 k x11 x12 (w64 (x13 + 1)) h65))
end
noncomputable def impl_ScanAll.f (k : Nat) (a0_0 : List S62) : Option ((List S45)) := (impl_ScanAll.c3 k a0_0 (a0_0.length : Int) 0 ([] : List S45))
noncomputable def impl_ScanAll.e (r : (List S45)) : Res Ty D := (.sl 0 none, [], [.rowb .t45 r 0])
noncomputable abbrev impl_ScanAll.g (rec : List Item → St Ty D → R) (k : Nat) := go1 Try.f30 (impl_ScanAll.ctx k) impl_ScanAll.sp 0 impl_ScanAll.en rec
set_option maxRecDepth 100000 in
theorem impl_ScanAll.t3 (rec : List Item → St Ty D → R) (k : Nat) (x11 : List S62) (x12 : Int) (x13 : Int) (h65 : List S45) : impl_ScanAll.g rec k (td Try.f30 3) (impl_ScanAll.s3 x11 x12 x13 h65) =
  bif decide (x13 < x12) then bif decide (0 ≤ x13) then bif decide (x13 < (x11.length : Int)) then rec (td Try.f30 6) (impl_ScanAll.s6 x13 x11 x12 x13 ((rd_T62 x11 x13).f2) (((rd_T62 x11 x13).f2).length : Int) 0 h65) else none else none else bif decide (h65.length ≤ 576460752303423488) then some (impl_ScanAll.e ((lsort45 h65))) else none := by kernel_rfl
set_option maxRecDepth 100000 in
theorem impl_ScanAll.t6 (rec : List Item → St Ty D → R) (k : Nat) (x4 : Int) (x11 : List S62) (x12 : Int) (x13 : Int) (x19 : List S75) (x20 : Int) (x21 : Int) (h65 : List S45) : impl_ScanAll.g rec k (td Try.f30 6) (impl_ScanAll.s6 x4 x11 x12 x13 x19 x20 x21 h65) =
  bif decide (x21 < x20) then bif decide (0 ≤ x21) then bif decide (x21 < (x19.length : Int)) then (impl_ReadPage.f k ((rd_T75 x19 x21).f1)).bind fun t1 => bif t1.2.2.2.2.2.2 then bif decide (((rd_T75 x19 x21).f0) = 1) then bif decide (h65.length + ([(S45.mk x4 x21 (S43.mk t1.1 t1.2.1 t1.2.2.1 t1.2.2.2.1 t1.2.2.2.2.1 t1.2.2.2.2.2.1))] : List S45).length ≤ 1954687338268) then rec (td Try.f30 6) (impl_ScanAll.s6 x4 x11 x12 x13 x19 x20 (w64 (x21 + 1)) (h65 ++ ([(S45.mk x4 x21 (S43.mk t1.1 t1.2.1 t1.2.2.1 t1.2.2.2.1 t1.2.2.2.2.1 t1.2.2.2.2.2.1))] : List S45))) else none else rec (td Try.f30 6) (impl_ScanAll.s6 x4 x11 x12 x13 x19 x20 (w64 (x21 + 1)) h65) else rec (td Try.f30 6) (impl_ScanAll.s6 x4 x11 x12 x13 x19 x20 (w64 (x21 + 1)) h65) else none else none else rec (td Try.f30 3) (impl_ScanAll.s3 x11 x12 (w64 (x13 + 1)) h65) := by kernel_rfl
set_option maxRecDepth 100000 in
theorem impl_ScanAll.te (rec : List Item → St Ty D → R) (k : Nat) (a0_0 : List S62) : impl_ScanAll.g rec k [.code (body Try.f30)] (startSt [.ag [.row 0 .t62 a0_0]] []) =
  rec (td Try.f30 3) (impl_ScanAll.s3 a0_0 (a0_0.length : Int) 0 ([] : List S45)) := by kernel_rfl
set_option maxRecDepth 100000 in
theorem impl_ScanAll.ok : ∀ k : Nat, (∀ (x11 : List S62) (x12 : Int) (x13 : Int) (h65 : List S45), goF Try.f30 impl_ScanAll.ctx impl_ScanAll.sp 0 impl_ScanAll.en k (td Try.f30 3) (impl_ScanAll.s3 x11 x12 x13 h65) = (impl_ScanAll.c3 k x11 x12 x13 h65).map impl_ScanAll.e) ∧ (∀ (x4 : Int) (x11 : List S62) (x12 : Int) (x13 : Int) (x19 : List S75) (x20 : Int) (x21 : Int) (h65 : List S45), goF Try.f30 impl_ScanAll.ctx impl_ScanAll.sp 0 impl_ScanAll.en k (td Try.f30 6) (impl_ScanAll.s6 x4 x11 x12 x13 x19 x20 x21 h65) = (impl_ScanAll.c6 k x4 x11 x12 x13 x19 x20 x21 h65).map impl_ScanAll.e)
  | 0 => ⟨fun _ _ _ _ => rfl, fun _ _ _ _ _ _ _ _ => rfl⟩
  | k + 1 => by
    have ih := impl_ScanAll.ok k
    obtain ⟨i3, i6⟩ := ih
    refine ⟨?_, ?_⟩
    · intro x11 x12 x13 h65; rw [impl_ScanAll.c3]; exact (impl_ScanAll.t3 _ k x11 x12 x13 h65).trans (cd (cd (cd (i6 _ _ _ _ _ _ _ _) rfl) rfl) (cd rfl rfl))
    · intro x4 x11 x12 x13 x19 x20 x21 h65; rw [impl_ScanAll.c6]; exact (impl_ScanAll.t6 _ k x4 x11 x12 x13 x19 x20 x21 h65).trans (cd (cd (cd (bn (fun t1 => (cb (cd (cd (i6 _ _ _ _ _ _ _ _) rfl) (i6 _ _ _ _ _ _ _ _)) (i6 _ _ _ _ _ _ _ _)))) rfl) rfl) (i3 _ _ _ _))
set_option maxRecDepth 100000 in
theorem impl_ScanAll.oke (k : Nat) (a0_0 : List S62) : goF Try.f30 impl_ScanAll.ctx impl_ScanAll.sp 0 impl_ScanAll.en (k + 1) [.code (body Try.f30)] (startSt [.ag [.row 0 .t62 a0_0]] []) = (impl_ScanAll.f k a0_0).map impl_ScanAll.e := by
  obtain ⟨i3, i6⟩ := impl_ScanAll.ok k
  rw [impl_ScanAll.f]; exact (impl_ScanAll.te _ k a0_0).trans (i3 _ _ _ _)
theorem impl_ScanAll.con (k : Nat) (a0_0 : List S62) (r) (h : impl_ScanAll.f k a0_0 = some r) : Contract Try.prog kit 30 [.ag [.row 0 .t62 a0_0]] [] (impl_ScanAll.e r).1 (impl_ScanAll.e r).2.1 (impl_ScanAll.e r).2.2 :=
  con_okG kitOk mix (fun k => (CtxOk.cons (impl_ReadPage.xok k) CtxOk.nil)) (impl_ScanAll.oke k a0_0) h (by kernel_rfl) (by kernel_rfl) (by kernel_rfl) rfl (by kernel_rfl) rfl rfl
noncomputable def impl_ScanAll.x (k : Nat) : X := fun ins bs κ => match ins, bs with
  | [.ag [.row 0 .t62 a0_0]], [] => (impl_ScanAll.f k a0_0).bind fun r => κ (impl_ScanAll.e r).1 (impl_ScanAll.e r).2.1 (impl_ScanAll.e r).2.2
  | _, _ => none
theorem impl_ScanAll.xok (k : Nat) : XOk 30 (impl_ScanAll.x k) := by
  intro ins bs κ res h
  unfold impl_ScanAll.x at h
  split at h
  · obtain ⟨r, hr, h⟩ := Option.bind_eq_some_iff.1 h
    exact ⟨_, _, _, impl_ScanAll.con k _ r hr, h⟩
  · cases h

/-! ### impl_dataOf: function 21 -/
noncomputable def impl_dataOf.sp : Nat → Option (Spec Ty) := fun r => bif Nat.beq r 4 then some ⟨[(1, .keep), (4, .box [.keep, .keep, .keep, .keep, .keep, .keep, .keep, .keep]), (6, .box [.keep, .keep, .keep, .keep, .keep, .keep, .keep, .keep]), (7, .keep), (11, .own .t45), (12, .keep), (13, .keep)], []⟩ else none
noncomputable def impl_dataOf.en : Option (Spec Ty) := none
noncomputable def impl_dataOf.s4 (x1 : Int) (x7 : Bool) (x12 : Int) (x13 : Int) (h64_0 : Int) (h64_1 : Int) (h64_2 : Int) (h64_3 : Int) (h64_4 : Int) (h64_5 : Int) (h64_6 : Int) (h64_7 : ByteArray) (h65_0 : Int) (h65_1 : Int) (h65_2 : Int) (h65_3 : Int) (h65_4 : Int) (h65_5 : Int) (h65_6 : Int) (h65_7 : ByteArray) (h66 : List S45) : St Ty D := ⟨(Env.put (Env.put (Env.put (Env.put (Env.put (Env.put (Env.put E (some 1) (.sc (.int .i64 x1))) (some 4) (.pt 64 0 0)) (some 6) (.pt 65 0 0)) (some 7) (.sc (.bool x7))) (some 11) (.sl 66 none)) (some 12) (.sc (.int .i64 x12))) (some 13) (.sc (.int .i64 x13))), Heap.put H0 [(64, some (.box [.sc (.int .i64 h64_0), .sc (.int .i64 h64_1), .sc (.int .i64 h64_2), .sc (.int .i64 h64_3), .sc (.int .i64 h64_4), .sc (.int .i64 h64_5), .sc (.int .i64 h64_6), .sc (.string h64_7)])), (65, some (.box [.sc (.int .i64 h65_0), .sc (.int .i64 h65_1), .sc (.int .i64 h65_2), .sc (.int .i64 h65_3), .sc (.int .i64 h65_4), .sc (.int .i64 h65_5), .sc (.int .i64 h65_6), .sc (.string h65_7)])), (66, some (.rowb .t45 h66 0))], 1000⟩
noncomputable def impl_dataOf.ctx (k : Nat) : Ctx Ty D := (cons 30 (impl_ScanAll.x k) (fun _ _ _ _ => none))
noncomputable def impl_dataOf.c4 : Nat → Int → Bool → Int → Int → Int → Int → Int → Int → Int → Int → Int → ByteArray → Int → Int → Int → Int → Int → Int → Int → ByteArray → (List S45) → Option (Int × Int × Int × Int × Int × Int × Int × ByteArray × Bool)
  | 0, _, _, _, _, _, _, _, _, _, _, _, _, _, _, _, _, _, _, _, _, _ => none
  | k + 1, x1, x7, x12, x13, h64_0, h64_1, h64_2, h64_3, h64_4, h64_5, h64_6, h64_7, h65_0, h65_1, h65_2, h65_3, h65_4, h65_5, h65_6, h65_7, h66 => (if x13 < x12 then (if 0 ≤ x13 then (if x13 < (h66.length : Int) then (if ((rd_T45 h66 x13).f2.f0) = 1 then (if ((rd_T45 h66 x13).f2.f2) = x1 then (if x7 = true then (if ((rd_T45 h66 x13).f2.f1) ≥ h65_3 then (impl_dataOf.c4 k x1 true x12 (w64 (x13 + 1)) h64_0 h64_1 h64_2 h64_3 h64_4 h64_5 h64_6 h64_7 ((rd_T45 h66 x13).f0) ((rd_T45 h66 x13).f1) ((rd_T45 h66 x13).f2.f0) ((rd_T45 h66 x13).f2.f1) ((rd_T45 h66 x13).f2.f2) ((rd_T45 h66 x13).f2.f3) ((rd_T45 h66 x13).f2.f4) ((rd_T45 h66 x13).f2.f5) h66) else (impl_dataOf.c4 k x1 x7 x12 (w64 (x13 + 1)) h64_0 h64_1 h64_2 h64_3 h64_4 h64_5 h64_6 h64_7 h65_0 h65_1 h65_2 h65_3 h65_4 h65_5 h65_6 h65_7 h66)) else (impl_dataOf.c4 k x1 true x12 (w64 (x13 + 1)) h64_0 h64_1 h64_2 h64_3 h64_4 h64_5 h64_6 h64_7 ((rd_T45 h66 x13).f0) ((rd_T45 h66 x13).f1) ((rd_T45 h66 x13).f2.f0) ((rd_T45 h66 x13).f2.f1) ((rd_T45 h66 x13).f2.f2) ((rd_T45 h66 x13).f2.f3) ((rd_T45 h66 x13).f2.f4) ((rd_T45 h66 x13).f2.f5) h66)) else (impl_dataOf.c4 k x1 x7 x12 (w64 (x13 + 1)) h64_0 h64_1 h64_2 h64_3 h64_4 h64_5 h64_6 h64_7 h65_0 h65_1 h65_2 h65_3 h65_4 h65_5 h65_6 h65_7 h66)) else (impl_dataOf.c4 k x1 x7 x12 (w64 (x13 + 1)) h64_0 h64_1 h64_2 h64_3 h64_4 h64_5 h64_6 h64_7 h65_0 h65_1 h65_2 h65_3 h65_4 h65_5 h65_6 h65_7 h66)) else none) else none) else (some (h65_0, h65_1, h65_2, h65_3, h65_4, h65_5, h65_6, h65_7, x7)))
noncomputable def impl_dataOf.f (k : Nat) (a0_0 : List S62) (a1 : Int) : Option (Int × Int × Int × Int × Int × Int × Int × ByteArray × Bool) := ((impl_ScanAll.f k a0_0).bind fun t1 => (impl_dataOf.c4 k a1 false (t1.length : Int) 0 0 0 0 0 0 0 0 (⟨#[]⟩ : ByteArray) 0 0 0 0 0 0 0 (⟨#[]⟩ : ByteArray) t1))
noncomputable def impl_dataOf.e (r : Int × Int × Int × Int × Int × Int × Int × ByteArray × Bool) : Res Ty D := (.tu [.ag [.sc (.int .i64 r.1), .sc (.int .i64 r.2.1), .sc (.int .i64 r.2.2.1), .sc (.int .i64 r.2.2.2.1), .sc (.int .i64 r.2.2.2.2.1), .sc (.int .i64 r.2.2.2.2.2.1), .sc (.int .i64 r.2.2.2.2.2.2.1), .sc (.string r.2.2.2.2.2.2.2.1)], .sc (.bool r.2.2.2.2.2.2.2.2)], [], [])
noncomputable abbrev impl_dataOf.g (rec : List Item → St Ty D → R) (k : Nat) := go1 Try.f21 (impl_dataOf.ctx k) impl_dataOf.sp 0 impl_dataOf.en rec
set_option maxRecDepth 100000 in
theorem impl_dataOf.t4 (rec : List Item → St Ty D → R) (k : Nat) (x1 : Int) (x7 : Bool) (x12 : Int) (x13 : Int) (h64_0 : Int) (h64_1 : Int) (h64_2 : Int) (h64_3 : Int) (h64_4 : Int) (h64_5 : Int) (h64_6 : Int) (h64_7 : ByteArray) (h65_0 : Int) (h65_1 : Int) (h65_2 : Int) (h65_3 : Int) (h65_4 : Int) (h65_5 : Int) (h65_6 : Int) (h65_7 : ByteArray) (h66 : List S45) : impl_dataOf.g rec k (td Try.f21 4) (impl_dataOf.s4 x1 x7 x12 x13 h64_0 h64_1 h64_2 h64_3 h64_4 h64_5 h64_6 h64_7 h65_0 h65_1 h65_2 h65_3 h65_4 h65_5 h65_6 h65_7 h66) =
  bif decide (x13 < x12) then bif decide (0 ≤ x13) then bif decide (x13 < (h66.length : Int)) then bif decide (((rd_T45 h66 x13).f2.f0) = 1) then bif decide (((rd_T45 h66 x13).f2.f2) = x1) then bif !x7 then rec (td Try.f21 4) (impl_dataOf.s4 x1 true x12 (w64 (x13 + 1)) h64_0 h64_1 h64_2 h64_3 h64_4 h64_5 h64_6 h64_7 ((rd_T45 h66 x13).f0) ((rd_T45 h66 x13).f1) ((rd_T45 h66 x13).f2.f0) ((rd_T45 h66 x13).f2.f1) ((rd_T45 h66 x13).f2.f2) ((rd_T45 h66 x13).f2.f3) ((rd_T45 h66 x13).f2.f4) ((rd_T45 h66 x13).f2.f5) h66) else bif decide (((rd_T45 h66 x13).f2.f1) ≥ h65_3) then rec (td Try.f21 4) (impl_dataOf.s4 x1 true x12 (w64 (x13 + 1)) h64_0 h64_1 h64_2 h64_3 h64_4 h64_5 h64_6 h64_7 ((rd_T45 h66 x13).f0) ((rd_T45 h66 x13).f1) ((rd_T45 h66 x13).f2.f0) ((rd_T45 h66 x13).f2.f1) ((rd_T45 h66 x13).f2.f2) ((rd_T45 h66 x13).f2.f3) ((rd_T45 h66 x13).f2.f4) ((rd_T45 h66 x13).f2.f5) h66) else rec (td Try.f21 4) (impl_dataOf.s4 x1 x7 x12 (w64 (x13 + 1)) h64_0 h64_1 h64_2 h64_3 h64_4 h64_5 h64_6 h64_7 h65_0 h65_1 h65_2 h65_3 h65_4 h65_5 h65_6 h65_7 h66) else rec (td Try.f21 4) (impl_dataOf.s4 x1 x7 x12 (w64 (x13 + 1)) h64_0 h64_1 h64_2 h64_3 h64_4 h64_5 h64_6 h64_7 h65_0 h65_1 h65_2 h65_3 h65_4 h65_5 h65_6 h65_7 h66) else rec (td Try.f21 4) (impl_dataOf.s4 x1 x7 x12 (w64 (x13 + 1)) h64_0 h64_1 h64_2 h64_3 h64_4 h64_5 h64_6 h64_7 h65_0 h65_1 h65_2 h65_3 h65_4 h65_5 h65_6 h65_7 h66) else none else none else some (impl_dataOf.e (h65_0, h65_1, h65_2, h65_3, h65_4, h65_5, h65_6, h65_7, x7)) := by kernel_rfl
set_option maxRecDepth 100000 in
theorem impl_dataOf.te (rec : List Item → St Ty D → R) (k : Nat) (a0_0 : List S62) (a1 : Int) : impl_dataOf.g rec k [.code (body Try.f21)] (startSt [.ag [.row 0 .t62 a0_0], .sc (.int .i64 a1)] []) =
  (impl_ScanAll.f k a0_0).bind fun t1 => rec (td Try.f21 4) (impl_dataOf.s4 a1 false (t1.length : Int) 0 0 0 0 0 0 0 0 (⟨#[]⟩ : ByteArray) 0 0 0 0 0 0 0 (⟨#[]⟩ : ByteArray) t1) := by kernel_rfl
set_option maxRecDepth 100000 in
theorem impl_dataOf.ok : ∀ k : Nat, (∀ (x1 : Int) (x7 : Bool) (x12 : Int) (x13 : Int) (h64_0 : Int) (h64_1 : Int) (h64_2 : Int) (h64_3 : Int) (h64_4 : Int) (h64_5 : Int) (h64_6 : Int) (h64_7 : ByteArray) (h65_0 : Int) (h65_1 : Int) (h65_2 : Int) (h65_3 : Int) (h65_4 : Int) (h65_5 : Int) (h65_6 : Int) (h65_7 : ByteArray) (h66 : List S45), goF Try.f21 impl_dataOf.ctx impl_dataOf.sp 0 impl_dataOf.en k (td Try.f21 4) (impl_dataOf.s4 x1 x7 x12 x13 h64_0 h64_1 h64_2 h64_3 h64_4 h64_5 h64_6 h64_7 h65_0 h65_1 h65_2 h65_3 h65_4 h65_5 h65_6 h65_7 h66) = (impl_dataOf.c4 k x1 x7 x12 x13 h64_0 h64_1 h64_2 h64_3 h64_4 h64_5 h64_6 h64_7 h65_0 h65_1 h65_2 h65_3 h65_4 h65_5 h65_6 h65_7 h66).map impl_dataOf.e)
  | 0 => fun _ _ _ _ _ _ _ _ _ _ _ _ _ _ _ _ _ _ _ _ _ => rfl
  | k + 1 => by
    have ih := impl_dataOf.ok k
    have i4 := ih
    intro x1 x7 x12 x13 h64_0 h64_1 h64_2 h64_3 h64_4 h64_5 h64_6 h64_7 h65_0 h65_1 h65_2 h65_3 h65_4 h65_5 h65_6 h65_7 h66; rw [impl_dataOf.c4]; exact (impl_dataOf.t4 _ k x1 x7 x12 x13 h64_0 h64_1 h64_2 h64_3 h64_4 h64_5 h64_6 h64_7 h65_0 h65_1 h65_2 h65_3 h65_4 h65_5 h65_6 h65_7 h66).trans (cd (cd (cd (cd (cd (nb (i4 _ _ _ _ _ _ _ _ _ _ _ _ _ _ _ _ _ _ _ _ _) (cd (i4 _ _ _ _ _ _ _ _ _ _ _ _ _ _ _ _ _ _ _ _ _) (i4 _ _ _ _ _ _ _ _ _ _ _ _ _ _ _ _ _ _ _ _ _))) (i4 _ _ _ _ _ _ _ _ _ _ _ _ _ _ _ _ _ _ _ _ _)) (i4 _ _ _ _ _ _ _ _ _ _ _ _ _ _ _ _ _ _ _ _ _)) rfl) rfl) rfl)
set_option maxRecDepth 100000 in
theorem impl_dataOf.oke (k : Nat) (a0_0 : List S62) (a1 : Int) : goF Try.f21 impl_dataOf.ctx impl_dataOf.sp 0 impl_dataOf.en (k + 1) [.code (body Try.f21)] (startSt [.ag [.row 0 .t62 a0_0], .sc (.int .i64 a1)] []) = (impl_dataOf.f k a0_0 a1).map impl_dataOf.e := by
  have i4 := impl_dataOf.ok k
  rw [impl_dataOf.f]; exact (impl_dataOf.te _ k a0_0 a1).trans (bn (fun t1 => (i4 _ _ _ _ _ _ _ _ _ _ _ _ _ _ _ _ _ _ _ _ _)))
theorem impl_dataOf.con (k : Nat) (a0_0 : List S62) (a1 : Int) (r) (h : impl_dataOf.f k a0_0 a1 = some r) : Contract Try.prog kit 21 [.ag [.row 0 .t62 a0_0], .sc (.int .i64 a1)] [] (impl_dataOf.e r).1 (impl_dataOf.e r).2.1 (impl_dataOf.e r).2.2 :=
  con_okG kitOk mix (fun k => (CtxOk.cons (impl_ScanAll.xok k) CtxOk.nil)) (impl_dataOf.oke k a0_0 a1) h (by kernel_rfl) (by kernel_rfl) (by kernel_rfl) rfl (by kernel_rfl) rfl rfl
noncomputable def impl_dataOf.x (k : Nat) : X := fun ins bs κ => match ins, bs with
  | [.ag [.row 0 .t62 a0_0], .sc (.int .i64 a1)], [] => (impl_dataOf.f k a0_0 a1).bind fun r => κ (impl_dataOf.e r).1 (impl_dataOf.e r).2.1 (impl_dataOf.e r).2.2
  | _, _ => none
theorem impl_dataOf.xok (k : Nat) : XOk 21 (impl_dataOf.x k) := by
  intro ins bs κ res h
  unfold impl_dataOf.x at h
  split at h
  · obtain ⟨r, hr, h⟩ := Option.bind_eq_some_iff.1 h
    exact ⟨_, _, _, impl_dataOf.con k _ _ r hr, h⟩
  · cases h

/-! ### impl_SpotOf: function 9 -/
noncomputable def impl_SpotOf.sp : Nat → Option (Spec Ty) := fun r => none
noncomputable def impl_SpotOf.en : Option (Spec Ty) := none
noncomputable def impl_SpotOf.ctx (k : Nat) : Ctx Ty D := (cons 21 (impl_dataOf.x k) (fun _ _ _ _ => none))
noncomputable def impl_SpotOf.f (k : Nat) (a0_0 : List S62) (a1 : Int) : Option (Int × Int × Bool) := ((impl_dataOf.f k a0_0 a1).bind fun t1 => (some (t1.1, t1.2.1, t1.2.2.2.2.2.2.2.2)))
noncomputable def impl_SpotOf.e (r : Int × Int × Bool) : Res Ty D := (.tu [.sc (.int .i64 r.1), .sc (.int .i64 r.2.1), .sc (.bool r.2.2)], [], [])
noncomputable abbrev impl_SpotOf.g (rec : List Item → St Ty D → R) (k : Nat) := go1 Try.f9 (impl_SpotOf.ctx k) impl_SpotOf.sp 0 impl_SpotOf.en rec
set_option maxRecDepth 100000 in
theorem impl_SpotOf.te (rec : List Item → St Ty D → R) (k : Nat) (a0_0 : List S62) (a1 : Int) : impl_SpotOf.g rec k [.code (body Try.f9)] (startSt [.ag [.row 0 .t62 a0_0], .sc (.int .i64 a1)] []) =
  (impl_dataOf.f k a0_0 a1).bind fun t1 => some (impl_SpotOf.e (t1.1, t1.2.1, t1.2.2.2.2.2.2.2.2)) := by kernel_rfl
set_option maxRecDepth 100000 in
theorem impl_SpotOf.oke (k : Nat) (a0_0 : List S62) (a1 : Int) : goF Try.f9 impl_SpotOf.ctx impl_SpotOf.sp 0 impl_SpotOf.en (k + 1) [.code (body Try.f9)] (startSt [.ag [.row 0 .t62 a0_0], .sc (.int .i64 a1)] []) = (impl_SpotOf.f k a0_0 a1).map impl_SpotOf.e := by
  rw [impl_SpotOf.f]; exact (impl_SpotOf.te _ k a0_0 a1).trans (bn (fun t1 => rfl))
theorem impl_SpotOf.con (k : Nat) (a0_0 : List S62) (a1 : Int) (r) (h : impl_SpotOf.f k a0_0 a1 = some r) : Contract Try.prog kit 9 [.ag [.row 0 .t62 a0_0], .sc (.int .i64 a1)] [] (impl_SpotOf.e r).1 (impl_SpotOf.e r).2.1 (impl_SpotOf.e r).2.2 :=
  con_okG kitOk mix (fun k => (CtxOk.cons (impl_dataOf.xok k) CtxOk.nil)) (impl_SpotOf.oke k a0_0 a1) h (by kernel_rfl) (by kernel_rfl) (by kernel_rfl) rfl (by kernel_rfl) rfl rfl
noncomputable def impl_SpotOf.x (k : Nat) : X := fun ins bs κ => match ins, bs with
  | [.ag [.row 0 .t62 a0_0], .sc (.int .i64 a1)], [] => (impl_SpotOf.f k a0_0 a1).bind fun r => κ (impl_SpotOf.e r).1 (impl_SpotOf.e r).2.1 (impl_SpotOf.e r).2.2
  | _, _ => none
theorem impl_SpotOf.xok (k : Nat) : XOk 9 (impl_SpotOf.x k) := by
  intro ins bs κ res h
  unfold impl_SpotOf.x at h
  split at h
  · obtain ⟨r, hr, h⟩ := Option.bind_eq_some_iff.1 h
    exact ⟨_, _, _, impl_SpotOf.con k _ _ r hr, h⟩
  · cases h

/-! ### laws_eqLeaf: function 67 -/
noncomputable def laws_eqLeaf.sp : Nat → Option (Spec Ty) := fun r => none
noncomputable def laws_eqLeaf.en : Option (Spec Ty) := none
noncomputable def laws_eqLeaf.ctx (k : Nat) : Ctx Ty D := (fun _ _ _ _ => none)
noncomputable def laws_eqLeaf.f (k : Nat) (a0_0 : Int) (a0_1 : ByteArray) (a1_0 : Int) (a1_1 : ByteArray) : Option (Bool) := (if a0_0 = a1_0 then (if (seq a0_1 a1_1) = true then (some (true)) else (some (false))) else (some (false)))
noncomputable def laws_eqLeaf.e (r : Bool) : Res Ty D := (.sc (.bool r), [], [])
noncomputable abbrev laws_eqLeaf.g (rec : List Item → St Ty D → R) (k : Nat) := go1 Try.f67 (laws_eqLeaf.ctx k) laws_eqLeaf.sp 0 laws_eqLeaf.en rec
set_option maxRecDepth 100000 in
theorem laws_eqLeaf.te (rec : List Item → St Ty D → R) (k : Nat) (a0_0 : Int) (a0_1 : ByteArray) (a1_0 : Int) (a1_1 : ByteArray) : laws_eqLeaf.g rec k [.code (body Try.f67)] (startSt [.ag [.sc (.int .i64 a0_0), .sc (.string a0_1)], .ag [.sc (.int .i64 a1_0), .sc (.string a1_1)]] []) =
  bif !decide (a0_0 = a1_0) then some (laws_eqLeaf.e (false)) else bif !(seq a0_1 a1_1) then some (laws_eqLeaf.e (false)) else some (laws_eqLeaf.e (true)) := by kernel_rfl
set_option maxRecDepth 100000 in
theorem laws_eqLeaf.oke (k : Nat) (a0_0 : Int) (a0_1 : ByteArray) (a1_0 : Int) (a1_1 : ByteArray) : goF Try.f67 laws_eqLeaf.ctx laws_eqLeaf.sp 0 laws_eqLeaf.en (k + 1) [.code (body Try.f67)] (startSt [.ag [.sc (.int .i64 a0_0), .sc (.string a0_1)], .ag [.sc (.int .i64 a1_0), .sc (.string a1_1)]] []) = (laws_eqLeaf.f k a0_0 a0_1 a1_0 a1_1).map laws_eqLeaf.e := by
  rw [laws_eqLeaf.f]; exact (laws_eqLeaf.te _ k a0_0 a0_1 a1_0 a1_1).trans (nd rfl (nb rfl rfl))
theorem laws_eqLeaf.con (k : Nat) (a0_0 : Int) (a0_1 : ByteArray) (a1_0 : Int) (a1_1 : ByteArray) (r) (h : laws_eqLeaf.f k a0_0 a0_1 a1_0 a1_1 = some r) : Contract Try.prog kit 67 [.ag [.sc (.int .i64 a0_0), .sc (.string a0_1)], .ag [.sc (.int .i64 a1_0), .sc (.string a1_1)]] [] (laws_eqLeaf.e r).1 (laws_eqLeaf.e r).2.1 (laws_eqLeaf.e r).2.2 :=
  con_okG kitOk mix (fun k => CtxOk.nil) (laws_eqLeaf.oke k a0_0 a0_1 a1_0 a1_1) h (by kernel_rfl) (by kernel_rfl) (by kernel_rfl) rfl (by kernel_rfl) rfl rfl
noncomputable def laws_eqLeaf.x (k : Nat) : X := fun ins bs κ => match ins, bs with
  | [.ag [.sc (.int .i64 a0_0), .sc (.string a0_1)], .ag [.sc (.int .i64 a1_0), .sc (.string a1_1)]], [] => (laws_eqLeaf.f k a0_0 a0_1 a1_0 a1_1).bind fun r => κ (laws_eqLeaf.e r).1 (laws_eqLeaf.e r).2.1 (laws_eqLeaf.e r).2.2
  | _, _ => none
theorem laws_eqLeaf.xok (k : Nat) : XOk 67 (laws_eqLeaf.x k) := by
  intro ins bs κ res h
  unfold laws_eqLeaf.x at h
  split at h
  · obtain ⟨r, hr, h⟩ := Option.bind_eq_some_iff.1 h
    exact ⟨_, _, _, laws_eqLeaf.con k _ _ _ _ r hr, h⟩
  · cases h

/-! ### laws_eqLeafS: function 45 -/
noncomputable def laws_eqLeafS.sp : Nat → Option (Spec Ty) := fun r => bif Nat.beq r 4 then some ⟨[(0, .keep), (1, .keep), (5, .keep)], []⟩ else none
noncomputable def laws_eqLeafS.en : Option (Spec Ty) := none
noncomputable def laws_eqLeafS.s4 (x0 : List S75) (x1 : List S75) (x5 : Int) : St Ty D := ⟨(Env.put (Env.put (Env.put E (some 0) (.row 0 .t75 x0)) (some 1) (.row 0 .t75 x1)) (some 5) (.sc (.int .i64 x5))), H0, 1000⟩
noncomputable def laws_eqLeafS.ctx (k : Nat) : Ctx Ty D := (cons 67 (laws_eqLeaf.x k) (fun _ _ _ _ => none))
noncomputable def laws_eqLeafS.c4 : Nat → (List S75) → (List S75) → Int → Option (Bool)
  | 0, _, _, _ => none
  | k + 1, x0, x1, x5 => (if x5 < (x0.length : Int) then (if 0 ≤ x5 then (if x5 < (x0.length : Int) then (if 0 ≤ x5 then (if x5 < (x1.length : Int) then ((laws_eqLeaf.f k ((rd_T75 x0 x5).f0) ((rd_T75 x0 x5).f1) ((rd_T75 x1 x5).f0) ((rd_T75 x1 x5).f1)).bind fun t1 => (if t1 = true then (laws_eqLeafS.c4 k x0 x1 (w64 (x5 + 1))) else (some (false)))) else none) else none) else none) else none) else (some (true)))
noncomputable def laws_eqLeafS.f (k : Nat) (a0 : List S75) (a1 : List S75) : Option (Bool) := (if (a0.length : Int) = (a1.length : Int) then (laws_eqLeafS.c4 k a0 a1 0) else (some (false)))
noncomputable def laws_eqLeafS.e (r : Bool) : Res Ty D := (.sc (.bool r), [], [])
noncomputable abbrev laws_eqLeafS.g (rec : List Item → St Ty D → R) (k : Nat) := go1 Try.f45 (laws_eqLeafS.ctx k) laws_eqLeafS.sp 0 laws_eqLeafS.en rec
set_option maxRecDepth 100000 in
theorem laws_eqLeafS.t4 (rec : List Item → St Ty D → R) (k : Nat) (x0 : List S75) (x1 : List S75) (x5 : Int) : laws_eqLeafS.g rec k (td Try.f45 4) (laws_eqLeafS.s4 x0 x1 x5) =
  bif decide (x5 < (x0.length : Int)) then bif decide (0 ≤ x5) then bif decide (x5 < (x0.length : Int)) then bif decide (0 ≤ x5) then bif decide (x5 < (x1.length : Int)) then (laws_eqLeaf.f k ((rd_T75 x0 x5).f0) ((rd_T75 x0 x5).f1) ((rd_T75 x1 x5).f0) ((rd_T75 x1 x5).f1)).bind fun t1 => bif !t1 then some (laws_eqLeafS.e (false)) else rec (td Try.f45 4) (laws_eqLeafS.s4 x0 x1 (w64 (x5 + 1))) else none else none else none else none else some (laws_eqLeafS.e (true)) := by kernel_rfl
set_option maxRecDepth 100000 in
theorem laws_eqLeafS.te (rec : List Item → St Ty D → R) (k : Nat) (a0 : List S75) (a1 : List S75) : laws_eqLeafS.g rec k [.code (body Try.f45)] (startSt [.row 0 .t75 a0, .row 0 .t75 a1] []) =
  bif !decide ((a0.length : Int) = (a1.length : Int)) then some (laws_eqLeafS.e (false)) else rec (td Try.f45 4) (laws_eqLeafS.s4 a0 a1 0) := by kernel_rfl
set_option maxRecDepth 100000 in
theorem laws_eqLeafS.ok : ∀ k : Nat, (∀ (x0 : List S75) (x1 : List S75) (x5 : Int), goF Try.f45 laws_eqLeafS.ctx laws_eqLeafS.sp 0 laws_eqLeafS.en k (td Try.f45 4) (laws_eqLeafS.s4 x0 x1 x5) = (laws_eqLeafS.c4 k x0 x1 x5).map laws_eqLeafS.e)
  | 0 => fun _ _ _ => rfl
  | k + 1 => by
    have ih := laws_eqLeafS.ok k
    have i4 := ih
    intro x0 x1 x5; rw [laws_eqLeafS.c4]; exact (laws_eqLeafS.t4 _ k x0 x1 x5).trans (cd (cd (cd (cd (cd (bn (fun t1 => (nb rfl (i4 _ _ _)))) rfl) rfl) rfl) rfl) rfl)
set_option maxRecDepth 100000 in
theorem laws_eqLeafS.oke (k : Nat) (a0 : List S75) (a1 : List S75) : goF Try.f45 laws_eqLeafS.ctx laws_eqLeafS.sp 0 laws_eqLeafS.en (k + 1) [.code (body Try.f45)] (startSt [.row 0 .t75 a0, .row 0 .t75 a1] []) = (laws_eqLeafS.f k a0 a1).map laws_eqLeafS.e := by
  have i4 := laws_eqLeafS.ok k
  rw [laws_eqLeafS.f]; exact (laws_eqLeafS.te _ k a0 a1).trans (nd rfl (i4 _ _ _))
theorem laws_eqLeafS.con (k : Nat) (a0 : List S75) (a1 : List S75) (r) (h : laws_eqLeafS.f k a0 a1 = some r) : Contract Try.prog kit 45 [.row 0 .t75 a0, .row 0 .t75 a1] [] (laws_eqLeafS.e r).1 (laws_eqLeafS.e r).2.1 (laws_eqLeafS.e r).2.2 :=
  con_okG kitOk mix (fun k => (CtxOk.cons (laws_eqLeaf.xok k) CtxOk.nil)) (laws_eqLeafS.oke k a0 a1) h (by kernel_rfl) (by kernel_rfl) (by kernel_rfl) rfl (by kernel_rfl) rfl rfl
noncomputable def laws_eqLeafS.x (k : Nat) : X := fun ins bs κ => match ins, bs with
  | [.row 0 .t75 a0, .row 0 .t75 a1], [] => (laws_eqLeafS.f k a0 a1).bind fun r => κ (laws_eqLeafS.e r).1 (laws_eqLeafS.e r).2.1 (laws_eqLeafS.e r).2.2
  | _, _ => none
theorem laws_eqLeafS.xok (k : Nat) : XOk 45 (laws_eqLeafS.x k) := by
  intro ins bs κ res h
  unfold laws_eqLeafS.x at h
  split at h
  · obtain ⟨r, hr, h⟩ := Option.bind_eq_some_iff.1 h
    exact ⟨_, _, _, laws_eqLeafS.con k _ _ r hr, h⟩
  · cases h

/-! ### laws_eqBlock: function 31 -/
noncomputable def laws_eqBlock.sp : Nat → Option (Spec Ty) := fun r => none
noncomputable def laws_eqBlock.en : Option (Spec Ty) := none
noncomputable def laws_eqBlock.ctx (k : Nat) : Ctx Ty D := (cons 45 (laws_eqLeafS.x k) (fun _ _ _ _ => none))
noncomputable def laws_eqBlock.f (k : Nat) (a0_0 : Bool) (a0_1 : Int) (a0_2 : List S75) (a1_0 : Bool) (a1_1 : Int) (a1_2 : List S75) : Option (Bool) := (if (a0_0 == a1_0) = true then (if a0_1 = a1_1 then ((laws_eqLeafS.f k a0_2 a1_2).bind fun t1 => (if t1 = true then (some (true)) else (some (false)))) else (some (false))) else (some (false)))
noncomputable def laws_eqBlock.e (r : Bool) : Res Ty D := (.sc (.bool r), [], [])
noncomputable abbrev laws_eqBlock.g (rec : List Item → St Ty D → R) (k : Nat) := go1 Try.f31 (laws_eqBlock.ctx k) laws_eqBlock.sp 0 laws_eqBlock.en rec
set_option maxRecDepth 100000 in
theorem laws_eqBlock.te (rec : List Item → St Ty D → R) (k : Nat) (a0_0 : Bool) (a0_1 : Int) (a0_2 : List S75) (a1_0 : Bool) (a1_1 : Int) (a1_2 : List S75) : laws_eqBlock.g rec k [.code (body Try.f31)] (startSt [.ag [.sc (.bool a0_0), .sc (.int .i64 a0_1), .row 0 .t75 a0_2], .ag [.sc (.bool a1_0), .sc (.int .i64 a1_1), .row 0 .t75 a1_2]] []) =
  bif !(a0_0 == a1_0) then some (laws_eqBlock.e (false)) else bif !decide (a0_1 = a1_1) then some (laws_eqBlock.e (false)) else (laws_eqLeafS.f k a0_2 a1_2).bind fun t1 => bif !t1 then some (laws_eqBlock.e (false)) else some (laws_eqBlock.e (true)) := by kernel_rfl
set_option maxRecDepth 100000 in
theorem laws_eqBlock.oke (k : Nat) (a0_0 : Bool) (a0_1 : Int) (a0_2 : List S75) (a1_0 : Bool) (a1_1 : Int) (a1_2 : List S75) : goF Try.f31 laws_eqBlock.ctx laws_eqBlock.sp 0 laws_eqBlock.en (k + 1) [.code (body Try.f31)] (startSt [.ag [.sc (.bool a0_0), .sc (.int .i64 a0_1), .row 0 .t75 a0_2], .ag [.sc (.bool a1_0), .sc (.int .i64 a1_1), .row 0 .t75 a1_2]] []) = (laws_eqBlock.f k a0_0 a0_1 a0_2 a1_0 a1_1 a1_2).map laws_eqBlock.e := by
  rw [laws_eqBlock.f]; exact (laws_eqBlock.te _ k a0_0 a0_1 a0_2 a1_0 a1_1 a1_2).trans (nb rfl (nd rfl (bn (fun t1 => (nb rfl rfl)))))
theorem laws_eqBlock.con (k : Nat) (a0_0 : Bool) (a0_1 : Int) (a0_2 : List S75) (a1_0 : Bool) (a1_1 : Int) (a1_2 : List S75) (r) (h : laws_eqBlock.f k a0_0 a0_1 a0_2 a1_0 a1_1 a1_2 = some r) : Contract Try.prog kit 31 [.ag [.sc (.bool a0_0), .sc (.int .i64 a0_1), .row 0 .t75 a0_2], .ag [.sc (.bool a1_0), .sc (.int .i64 a1_1), .row 0 .t75 a1_2]] [] (laws_eqBlock.e r).1 (laws_eqBlock.e r).2.1 (laws_eqBlock.e r).2.2 :=
  con_okG kitOk mix (fun k => (CtxOk.cons (laws_eqLeafS.xok k) CtxOk.nil)) (laws_eqBlock.oke k a0_0 a0_1 a0_2 a1_0 a1_1 a1_2) h (by kernel_rfl) (by kernel_rfl) (by kernel_rfl) rfl (by kernel_rfl) rfl rfl
noncomputable def laws_eqBlock.x (k : Nat) : X := fun ins bs κ => match ins, bs with
  | [.ag [.sc (.bool a0_0), .sc (.int .i64 a0_1), .row 0 .t75 a0_2], .ag [.sc (.bool a1_0), .sc (.int .i64 a1_1), .row 0 .t75 a1_2]], [] => (laws_eqBlock.f k a0_0 a0_1 a0_2 a1_0 a1_1 a1_2).bind fun r => κ (laws_eqBlock.e r).1 (laws_eqBlock.e r).2.1 (laws_eqBlock.e r).2.2
  | _, _ => none
theorem laws_eqBlock.xok (k : Nat) : XOk 31 (laws_eqBlock.x k) := by
  intro ins bs κ res h
  unfold laws_eqBlock.x at h
  split at h
  · obtain ⟨r, hr, h⟩ := Option.bind_eq_some_iff.1 h
    exact ⟨_, _, _, laws_eqBlock.con k _ _ _ _ _ _ r hr, h⟩
  · cases h
end Go.Proofs.Ytbbfkodckpfjcaa.M2
