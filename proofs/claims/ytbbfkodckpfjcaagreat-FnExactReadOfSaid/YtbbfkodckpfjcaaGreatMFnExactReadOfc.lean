/- FnExactReadOf: functions of the translation as Lean functions with what their calls come to, plain lemmas on them, and, at the end, the row. Parts of one proof, merged by a program of this session; each part's own sentence stands at its head. -/
import Derived.Deep.QuietTactic
import Derived.Test.YtbbfkodckpfjcaaGreatMFnExactReadOfb
/- sort.symMerge_func at elements of k cells: a merge. -/
namespace Go.Proofs.YtbbfkodckpfjcaaGreat.St
open Go Go.Proofs Go.Shelf Go.RowKit Go.Lib Go.Sort
variable {P : Program} {ρ : Ren} {α : Type} [Inhabited α]

set_option maxHeartbeats 4000000 in
set_option maxRecDepth 1000000 in
theorem symMerge (L : LaysGt.n30 P ρ) (enc : α → List Value) (k : Nat) (hk : ∀ x, (enc x).length = k) (lt : α → α → Bool) (hS : SWO lt) (g : Nat) (lb : Array Value) (sf : Nat) (sb : Array Value) (blk off : Nat) (eg : ∀ args w, (callFunc g args).run P w = .ok (.enter g args) w) :
    ∀ (N a m b : Nat) (d : Array α) (w : World) (A X Y Q : List α), b - a ≤ N → LessReadsK P g lb enc k lt blk off d.size w → SwapSwapsK P sf sb enc k blk off d.size → HoldsK enc k w blk off d → blk < w.heap.size → d.size < 4611686018427387904 →
    d.toList = A ++ (X ++ (Y ++ Q)) → A.length = a → a + X.length = m → m + Y.length = b → 0 < X.length → 0 < Y.length → Asc lt X → Asc lt Y →
    Calls P (ρ.f 30) #[.agg #[.func (.func g) #[] lb, .func (.func sf) #[] sb], .int .i64 a, .int .i64 m, .int .i64 b] w fun e w' => e = .returned (.tuple #[]) ∧ ∃ q os dk, w' = sortWorldK enc k w blk off q dk os ∧ dk.toList = A ++ (mrg lt X Y ++ Q)
  | 0, a, m, b, d, w, A, X, Y, Q, hN, _, _, _, _, _, _, ha, hm, hb, hX, hY, _, _ => by exfalso; omega
  | N + 1, a, m, b, d, w, A, X, Y, Q, hN, hless, hswap, hH, hblk, hsz, hd, ha, hm, hb, hX, hY, aX, aY => by
    have hds : A.length + (X.length + (Y.length + Q.length)) = d.size := by rw [← Array.length_toList, hd]; simp
    by_cases hX1 : X.length = 1
    · obtain ⟨x, rfl⟩ := List.length_eq_one_iff.1 hX1
      refine (symOne L enc k hk lt g lb sf sb blk off a m b d w A Y Q x eg hless hswap hH hblk hsz hd ha hm hb).mono ?_
      rintro e w' ⟨rfl, q, os, dk, t, hw, ht, h1, h2, hdk⟩
      refine ⟨rfl, q, os, dk, hw, ?_⟩
      have hda : d[a]! = x := at_list (A := A) (B := Y ++ Q) (by rw [hd]; rfl) ha.symm
      have hdm : ∀ i (h : i < Y.length), d[m + i]! = Y[i] := fun i h => at_mid (A := A ++ [x]) (Q := Q) (by rw [hd]; simp) h (by rw [List.length_append]; simp; simp at hm; omega)
      rw [hdk]
      have hm2 : mrg lt [x] Y = Y.take t ++ x :: Y.drop t := by
        have aY' := aY
        rw [← List.take_append_drop t Y] at aY'
        have e1 : mrg lt ([] ++ [x]) (Y.take t ++ Y.drop t) = mrg lt [] (Y.take t) ++ mrg lt [x] (Y.drop t) := by
          refine mrg_split [] [x] _ _ ?_ (by simp) (Asc.cross aY')
          rcases h1 with h1 | h1
          · subst h1; simp
          · rcases Nat.eq_zero_or_pos t with h0 | h0
            · subst h0; simp
            · obtain ⟨u, rfl⟩ : ∃ u, t = u + 1 := ⟨t - 1, by omega⟩
              rw [hda, show m + (u + 1) - 1 = m + u by omega, hdm u (by omega)] at h1
              have e := take_next (Y := Y) (t := u) (by omega)
              rw [e] at aY' ⊢
              exact cross_lt hS (X := []) (List.pairwise_singleton _ _) aY'.left h1
        rw [List.nil_append, List.take_append_drop, mrg_nil_left aY'.left] at e1
        rw [e1]
        congr 1
        rw [mrg_asc]; rfl
        refine List.pairwise_cons.2 ⟨?_, aY'.right⟩
        rcases h2 with h2 | h2
        · subst h2; simp
        · rcases Nat.lt_or_ge t Y.length with h0 | h0
          · rw [hda, hdm t h0] at h2
            have e := List.drop_eq_getElem_cons h0
            rw [e] at aY' ⊢
            intro z hz
            exact cross_ge hS (X := []) (List.pairwise_singleton _ _) aY'.right h2 z hz x (by simp)
          · rw [List.drop_eq_nil_of_le h0]; simp
      rw [hm2]; simp
    · by_cases hY1 : Y.length = 1
      · obtain ⟨x, rfl⟩ := List.length_eq_one_iff.1 hY1
        refine (symLast L enc k hk lt g lb sf sb blk off a m b d w A X Q x eg hless hswap hH hblk hsz (by rw [hd]; rfl) ha (by omega) hm hb).mono ?_
        rintro e w' ⟨rfl, q, os, dk, t, hw, ht, h1, h2, hdk⟩
        refine ⟨rfl, q, os, dk, hw, ?_⟩
        have hdm : d[m]! = x := at_list (A := A ++ X) (B := Q) (by rw [hd]; simp) (by simp; omega)
        have hda : ∀ i (h : i < X.length), d[a + i]! = X[i] := fun i h => at_mid hd h (by omega)
        rw [hdk]
        have hm2 : mrg lt X [x] = X.take t ++ x :: X.drop t := by
          have aX' := aX
          rw [← List.take_append_drop t X] at aX'
          have e1 : mrg lt (X.take t ++ X.drop t) ([x] ++ []) = mrg lt (X.take t) [x] ++ mrg lt (X.drop t) [] := by
            refine mrg_split _ _ [x] [] ?_ (by simp) (by simp)
            rcases h2 with h2 | h2
            · rw [List.drop_eq_nil_of_le (by omega)]; simp
            · rcases Nat.lt_or_ge t X.length with h0 | h0
              · rw [hdm, hda t h0] at h2
                have e := List.drop_eq_getElem_cons h0
                rw [e] at aX' ⊢
                exact cross_lt hS (Y := []) aX'.right (List.pairwise_singleton _ _) h2
              · rw [List.drop_eq_nil_of_le h0]; simp
          rw [List.append_nil, List.take_append_drop, mrg_nil] at e1
          rw [e1, mrg_cons, mrg_nil, ins_end]
          · simp
          · rcases h1 with h1 | h1
            · subst h1; simp
            · rcases Nat.eq_zero_or_pos t with h0 | h0
              · subst h0; simp
              · obtain ⟨u, rfl⟩ : ∃ u, t = u + 1 := ⟨t - 1, by omega⟩
                rw [hdm, show a + (u + 1) - 1 = a + u by omega, hda u (by omega)] at h1
                have e := take_next (Y := X) (t := u) (by omega)
                rw [e] at aX' ⊢
                exact cross_ge hS (Y := []) aX'.left (List.pairwise_singleton _ _) h1 x (by simp)
        rw [hm2]; simp
      · have mixed := L.mixed; have t0 := L.t0; have a0 := L.a0; have z0 := L.z0; have v0 := L.v0; have t3 := L.t3; have a3 := L.a3; have z3 := L.z3; have v3 := L.v3; have t4 := L.t4; have a4 := L.a4; have z4 := L.z4; have v4 := L.v4; have t26 := L.t26; have a26 := L.a26; have z26 := L.z26; have v26 := L.v26; have t38 := L.t38; have a38 := L.a38; have z38 := L.z38; have v38 := L.v38; have t42 := L.t42; have a42 := L.a42; have z42 := L.z42; have v42 := L.v42; have t47 := L.t47; have a47 := L.a47; have z47 := L.z47; have v47 := L.v47
        have u42 := run_underlying L.t42
        have e30 : ∀ args w, (callFunc (ρ.f 30) args).run P w = .ok (.enter (ρ.f 30) args) w := enters_of L.f30 (by kernel_rfl) rfl
        have e42 : ∀ args w, (callFunc (ρ.f 42) args).run P w = .ok (.enter (ρ.f 42) args) w := enters_of L.f42 (by kernel_rfl) rfl
        have LR : LaysGt.n42 P ρ := { L with }
        obtain ⟨mid, hmid⟩ : ∃ mid, mid = (a + b) / 2 := ⟨_, rfl⟩
        obtain ⟨lo, hi, hcase⟩ : ∃ lo hi, (m ≤ mid ∧ lo = a ∧ hi = m ∨ mid < m ∧ lo = mid + m - b ∧ hi = mid) := by
          rcases Nat.lt_or_ge mid m with h | h
          · exact ⟨_, _, .inr ⟨h, rfl, rfl⟩⟩
          · exact ⟨_, _, .inl ⟨h, rfl, rfl⟩⟩
        obtain ⟨W, hW⟩ : ∃ W, W = w.alloc (.cells #[.func (.func g) #[] lb, .func (.func sf) #[] sb] (ρ.t 42)) := ⟨_, rfl⟩
        have hH1 : HoldsK enc k W blk off d := by rw [hW, alloc_eq_grow]; exact holdsK_grow enc k w _ blk off d hblk hH
        have hb1 : blk < W.heap.size := by rw [hW, alloc_eq_grow, size_grow]; omega
        have hls : LessReadsK P g lb enc k lt blk off d.size W := by rw [hW, alloc_eq_grow]; exact hless.grow hblk _
        have IH : ∀ (q : Nat) (dk : Array α) (os : Array Obj) (A' X' Y' Q' : List α) (a' m' b' : Nat), dk.toList = A' ++ (X' ++ (Y' ++ Q')) → dk.size = d.size → b' - a' ≤ N → A'.length = a' → a' + X'.length = m' → m' + Y'.length = b' → 0 < X'.length → 0 < Y'.length → Asc lt X' → Asc lt Y' →
            Calls P (ρ.f 30) #[.agg #[.func (.func g) #[] lb, .func (.func sf) #[] sb], .int .i64 a', .int .i64 m', .int .i64 b'] (sortWorldK enc k W blk off q dk os) fun e w' => e = .returned (.tuple #[]) ∧ ∃ q os dk, w' = sortWorldK enc k W blk off q dk os ∧ dk.toList = A' ++ (mrg lt X' Y' ++ Q') := by
          intro q dk os A' X' Y' Q' a' m' b' h1 hss h2 h3 h4 h5 h6 h7 h8 h9
          refine (symMerge L enc k hk lt hS g lb sf sb blk off eg N a' m' b' dk (sortWorldK enc k W blk off q dk os) A' X' Y' Q' h2 (by rw [hss]; exact skLess hls hb1 q dk os hss) (by rw [hss]; exact hswap) (skHolds enc k W blk off q d dk os hb1 hH1 hss) (skLt enc k W blk off q dk os hb1) (by rw [hss]; exact hsz) h1 h3 h4 h5 h6 h7 h8 h9).mono ?_
          rintro e w' ⟨rfl, q', os', dk', rfl, hd'⟩
          exact ⟨rfl, q + q', os ++ os', dk', skOn enc k W blk off q q' dk dk' os os' hb1 (by rw [size_of_list hd', size_of_list h1]; simp [len_mrg]; omega), hd'⟩
        have size : ∀ {dk : Array α} {l : List α}, dk.toList = l → l.length = d.size → dk.size = d.size := fun h e => (size_of_list h).trans e
        go_enter L.f30, BodyGt.n30_ntmps ρ
        go_wp2
        rw [← hW, show ((m : Int) - (a : Int) == 1) = false by simp; omega, show ((b : Int) - (m : Int) == 1) = false by simp; omega]
        go_wp2
        all_goals
          (try rw [show ((m : Int) - (a : Int) == 1) = false by simp; omega])
          (try rw [show ((b : Int) - (m : Int) == 1) = false by simp; omega])
          first | rw [show decide (((a : Int) + (b : Int)) / 2 < (m : Int)) = true by simp; omega] | rw [show decide (((a : Int) + (b : Int)) / 2 < (m : Int)) = false by simp; omega]
          go_loopg [18, 19, 21] (b - a) (fun kk s8 s9 s21 wr => ∃ (i j q : Nat) (os : Array Obj), s8 = .int .i64 i ∧ s9 = .int .i64 j ∧ lo ≤ i ∧ i ≤ j ∧ j ≤ hi ∧ j - i ≤ kk ∧ wr = sortWorldK enc k W blk off q d os ∧
            (i = lo ∨ lt d[mid + m - i]! d[i - 1]! = false) ∧ (j = hi ∨ lt d[mid + m - 1 - j]! d[j]! = true))
          case atStart => exact ⟨lo, hi, 0, #[], by first | rfl | (congr 1; omega), by first | rfl | (congr 1; omega), Nat.le_refl _, by omega, Nat.le_refl _, by omega, by first | exact (skStart enc k _ blk off d hH1).symm | exact hW.symm.trans (skStart enc k _ blk off d hH1).symm, .inl rfl, .inl rfl⟩
          case round =>
            obtain ⟨i, j, q, os, rfl, rfl, hi1, hij, hj, hkk, hwr, hil, hjl⟩ := hrel
            have c0 : wr.cell? ⟨w.heap.size, 0, none⟩ = some (.func (.func g) #[] lb) := by
              rw [hwr, skCell enc k _ blk off q _ _ _ _ (by rw [hW]; simp) (by omega), hW]; simp
            have c1 : wr.cell? ⟨w.heap.size, 1, none⟩ = some (.func (.func sf) #[] sb) := by
              rw [hwr, skCell enc k _ blk off q _ _ _ _ (by rw [hW]; simp) (by omega), hW]; simp
            by_cases hlt : i < j
            · obtain ⟨h, hh⟩ : ∃ h, h = (i + j) / 2 := ⟨_, rfl⟩
              obtain ⟨p, hp⟩ : ∃ p, p = mid + m - 1 - h := ⟨_, rfl⟩
              have hls := skLess hls hb1 q d os rfl 0 #[] d rfl p h (by omega) (by omega)
              rw [skStart enc k _ blk off d (skHolds enc k _ blk off q d d os hb1 hH1 rfl), ← hwr, show ((p : Nat) : Int) = ((a : Int) + (b : Int)) / 2 + (m : Int) - 1 - ((i : Int) + (j : Int)) / 2 by omega, show ((h : Nat) : Int) = ((i : Int) + (j : Int)) / 2 by omega] at hls
              have F : Aside (wr = sortWorldK enc k W blk off q d os ∧ (i = lo ∨ lt d[mid + m - i]! d[i - 1]! = false) ∧ (j = hi ∨ lt d[mid + m - 1 - j]! d[j]! = true)) := ⟨hwr, hil, hjl⟩
              clear hwr hil hjl hH hH1 hswap hless IH size hW
              cases hlv : lt d[p]! d[h]! with
              | false =>
                rw [hlv] at hls
                go_wp2_with (go_at_fn g; refine hls.mono ?_; rintro e w' ⟨rfl, q', rfl⟩)
                go_roundg (j - (h + 1))
                case measure => omega
                case rel => exact ⟨h + 1, j, q + q', os, by congr 1; omega, rfl, by omega, by omega, hj, Nat.le_refl _, by rw [F.out.1, skDrewN], .inr (by rw [show mid + m - (h + 1) = p by omega]; exact hlv), F.out.2.2⟩
              | true =>
                rw [hlv] at hls
                go_wp2_with (go_at_fn g; refine hls.mono ?_; rintro e w' ⟨rfl, q', rfl⟩)
                go_roundg (h - i)
                case measure => omega
                case rel => exact ⟨i, h, q + q', os, rfl, by congr 1; omega, hi1, by omega, by omega, Nat.le_refl _, by rw [F.out.1, skDrewN], F.out.2.1, .inr (by rw [← hp]; exact hlv)⟩
            · have hij2 : i = j := by omega
              subst hij2
              obtain ⟨e, he⟩ : ∃ e, e = mid + m - i := ⟨_, rfl⟩
              have hsp := sym_split hS hd ha hm hb aX aY hmid hcase hi1 hj hil hjl
              have aX1 : Asc lt (X.take (i - a)) := by have h := aX; rw [← List.take_append_drop (i - a) X] at h; exact h.left
              have aX2 : Asc lt (X.drop (i - a)) := by have h := aX; rw [← List.take_append_drop (i - a) X] at h; exact h.right
              have aY1 : Asc lt (Y.take (mid - i)) := by have h := aY; rw [← List.take_append_drop (mid - i) Y] at h; exact h.left
              have aY2 : Asc lt (Y.drop (mid - i)) := by have h := aY; rw [← List.take_append_drop (mid - i) Y] at h; exact h.right
              have lX1 : (X.take (i - a)).length = i - a := by rw [List.length_take]; omega
              have lY1 : (Y.take (mid - i)).length = mid - i := by rw [List.length_take]; omega
              have lX2 : (X.drop (i - a)).length = m - i := by rw [List.length_drop]; omega
              have lY2 : (Y.drop (mid - i)).length = b - e := by rw [List.length_drop]; omega
              have eX : X = X.take (i - a) ++ X.drop (i - a) := (List.take_append_drop _ _).symm
              have eY : Y = Y.take (mid - i) ++ Y.drop (mid - i) := (List.take_append_drop _ _).symm
              generalize X.take (i - a) = X1 at *
              generalize X.drop (i - a) = X2 at *
              generalize Y.take (mid - i) = Y1 at *
              generalize Y.drop (mid - i) = Y2 at *
              subst eX eY
              have eM : ((a : Int) + (b : Int)) / 2 = ((mid : Nat) : Int) := by omega
              have eE : ((a : Int) + (b : Int)) / 2 + (m : Int) - (i : Int) = ((e : Nat) : Int) := by omega
              -- the turning, where there is one
              have R : i < m → m < e → Calls P (ρ.f 42) #[.agg #[.func (.func g) #[] lb, .func (.func sf) #[] sb], .int .i64 i, .int .i64 m, .int .i64 (((a : Int) + (b : Int)) / 2 + (m : Int) - (i : Int))] wr fun e w' => e = .returned (.tuple #[]) ∧
                  ∃ q os dk, w' = sortWorldK enc k W blk off q dk os ∧ dk.toList = A ++ (X1 ++ (Y1 ++ (X2 ++ (Y2 ++ Q)))) := by
                intro h1 h2
                rw [eE, hwr]
                refine (rotate LR enc k hk (.func g) #[] lb sf sb blk off i m e d _ (A ++ X1) X2 Y1 (Y2 ++ Q) hswap (skHolds enc k W blk off q d d os hb1 hH1 rfl) (skLt enc k W blk off q d os hb1) hsz (by rw [hd]; simp) (by rw [List.length_append]; omega) (by omega) (by omega) (by omega) (by omega)).mono ?_
                rintro e w' ⟨rfl, q', os', dk', rfl, hd'⟩
                exact ⟨rfl, q + q', os ++ os', dk', skOn enc k W blk off q q' d dk' os os' hb1 (by rw [size_of_list hd', size_of_list hd]; simp; omega), by rw [hd']; simp⟩
              have R0 : ¬ (i < m ∧ m < e) → d.toList = A ++ (X1 ++ (Y1 ++ (X2 ++ (Y2 ++ Q)))) := by
                intro h
                rw [hd]
                rcases Nat.lt_or_ge i m with h1 | h1
                · obtain rfl : Y1 = [] := List.length_eq_zero_iff.1 (by omega)
                  simp
                · obtain rfl : X2 = [] := List.length_eq_zero_iff.1 (by omega)
                  simp
              have S1 : ∀ q dk os, dk.toList = A ++ (X1 ++ (Y1 ++ (X2 ++ (Y2 ++ Q)))) → a < i → i < mid → Calls P (ρ.f 30) #[.agg #[.func (.func g) #[] lb, .func (.func sf) #[] sb], .int .i64 a, .int .i64 i, .int .i64 (((a : Int) + (b : Int)) / 2)] (sortWorldK enc k W blk off q dk os) fun e w' => e = .returned (.tuple #[]) ∧
                  ∃ q os dk, w' = sortWorldK enc k W blk off q dk os ∧ dk.toList = A ++ (mrg lt X1 Y1 ++ (X2 ++ (Y2 ++ Q))) := by
                intro q dk os h h1 h2
                rw [eM]
                exact IH q dk os A X1 Y1 _ a i mid h (size h (by simp; simp at hds; omega)) (by omega) ha (by omega) (by omega) (by omega) (by omega) aX1 aY1
              have S10 : ¬ (a < i ∧ i < mid) → mrg lt X1 Y1 = X1 ++ Y1 := by
                intro h
                rcases Nat.lt_or_ge a i with h1 | h1
                · obtain rfl : Y1 = [] := List.length_eq_zero_iff.1 (by omega)
                  simp [mrg_nil]
                · obtain rfl : X1 = [] := List.length_eq_zero_iff.1 (by omega)
                  rw [mrg_nil_left aY1]; rfl
              have S2 : ∀ q dk os, dk.toList = A ++ (mrg lt X1 Y1 ++ (X2 ++ (Y2 ++ Q))) → mid < e → e < b → Calls P (ρ.f 30) #[.agg #[.func (.func g) #[] lb, .func (.func sf) #[] sb], .int .i64 (((a : Int) + (b : Int)) / 2), .int .i64 (((a : Int) + (b : Int)) / 2 + (m : Int) - (i : Int)), .int .i64 b] (sortWorldK enc k W blk off q dk os) fun e w' => e = .returned (.tuple #[]) ∧
                  ∃ q os dk, w' = sortWorldK enc k W blk off q dk os ∧ dk.toList = A ++ (mrg lt X1 Y1 ++ (mrg lt X2 Y2 ++ Q)) := by
                intro q dk os h h1 h2
                rw [eE, eM]
                refine (IH q dk os (A ++ mrg lt X1 Y1) X2 Y2 Q mid e b (by rw [h]; simp) (size h (by simp [len_mrg]; simp at hds; omega)) (by omega) (by rw [List.length_append, len_mrg]; omega) (by omega) (by omega) (by omega) (by omega) aX2 aY2).mono ?_
                rintro e w' ⟨rfl, q', os', dk', rfl, hd'⟩
                exact ⟨rfl, q', os', dk', rfl, by rw [hd']; simp⟩
              have S20 : ¬ (mid < e ∧ e < b) → mrg lt X2 Y2 = X2 ++ Y2 := by
                intro h
                rcases Nat.lt_or_ge mid e with h1 | h1
                · obtain rfl : Y2 = [] := List.length_eq_zero_iff.1 (by omega)
                  simp [mrg_nil]
                · obtain rfl : X2 = [] := List.length_eq_zero_iff.1 (by omega)
                  rw [mrg_nil_left aY2]; rfl
              have Fin : ∀ q dk os, dk.toList = A ++ (mrg lt X1 Y1 ++ (mrg lt X2 Y2 ++ Q)) → ∃ q' os' dk', sortWorldK enc k W blk off q dk os = sortWorldK enc k w blk off q' dk' os' ∧ dk'.toList = A ++ (mrg lt (X1 ++ X2) (Y1 ++ Y2) ++ Q) := by
                intro q dk os h
                have hh := skAlloc enc k w (.cells #[.func (.func g) #[] lb, .func (.func sf) #[] sb] (ρ.t 42)) blk off q dk os hblk d hH (size h (by simp [len_mrg]; simp at hds; omega))
                rw [← hW] at hh
                exact ⟨q, _, dk, hh, by rw [h, hsp]; simp⟩
              have bx0 : ∀ q (dk : Array α) os, (sortWorldK enc k W blk off q dk os).cell? ⟨w.heap.size, 0, none⟩ = some (.func (.func g) #[] lb) := fun q dk os => by
                rw [skCell enc k _ blk off q _ _ _ _ (by rw [hW]; simp) (by omega), hW]; simp
              have bx1 : ∀ q (dk : Array α) os, (sortWorldK enc k W blk off q dk os).cell? ⟨w.heap.size, 1, none⟩ = some (.func (.func sf) #[] sb) := fun q dk os => by
                rw [skCell enc k _ blk off q _ _ _ _ (by rw [hW]; simp) (by omega), hW]; simp
              clear c0 c1
              have bR : Aside _ := R
              have bR0 : Aside _ := R0
              have bS1 : Aside _ := S1
              have bS10 : Aside _ := S10
              have bS2 : Aside _ := S2
              have bS20 : Aside _ := S20
              have bFin : Aside _ := Fin
              clear eM eE hW R R0 S1 S10 S2 S20 Fin IH size hls hless hswap hH hH1 hsp aX aY aX1 aX2 aY1 aY2 hd hil hjl
              subst hwr
              go_wp2_with (first
                | (go_at_fn (ρ.f 42); refine (bR.out (by omega) (by omega)).mono ?_; rintro e1 w1 ⟨rfl, q1, os1, dk1, rfl, hd1⟩; have bd1 : Aside _ := hd1; clear hd1)
                | (go_at_fn_of (ρ.f 30) (Value.int .i64 (a : Int)); refine (bS1.out _ _ _ (by first | exact bd1.out | exact bR0.out (by omega)) (by omega) (by omega)).mono ?_; rintro e2 w2 ⟨rfl, q2, os2, dk2, rfl, hd2⟩; have bd2 : Aside _ := hd2; clear hd2)
                | (go_at_fn_of (ρ.f 30) (Value.int .i64 (b : Int)); refine (bS2.out _ _ _ (by first | exact bd2.out | (rw [bS10.out (by omega)]; first | simpa using bd1.out | simpa using bR0.out (by omega))) (by omega) (by omega)).mono ?_; rintro e3 w3 ⟨rfl, q3, os3, dk3, rfl, hd3⟩; have bd3 : Aside _ := hd3; clear hd3))
              all_goals
                go_end0
                exact ⟨rfl, bFin.out _ _ _ (by first | exact bd3.out | (rw [bS20.out (by omega)]; first | simpa using bd2.out | (rw [bS10.out (by omega)]; first | simpa using bd1.out | simpa using bR0.out (by omega))))⟩
end Go.Proofs.YtbbfkodckpfjcaaGreat.St

/- sort.stable_func at elements of k cells, of any number: the stable order. -/
namespace Go.Proofs.YtbbfkodckpfjcaaGreat.St
open Go Go.Proofs Go.Shelf Go.RowKit Go.Lib Go.Sort
set_option linter.unusedVariables false
section
variable {α : Type} {lt : α → α → Bool}
/-- D is L, each stretch of B sorted (the last may be short). -/
inductive SB (lt : α → α → Bool) (B : Nat) : List α → List α → Prop
  | nil : SB lt B [] []
  | last (X : List α) : X.length ≤ B → SB lt B X (isort lt X)
  | cons (X L D : List α) : X.length = B → SB lt B L D → SB lt B (X ++ L) (isort lt X ++ D)
inductive Full (lt : α → α → Bool) (B : Nat) : List α → List α → Prop
  | nil : Full lt B [] []
  | snoc (L D X : List α) : Full lt B L D → X.length = B → Full lt B (L ++ X) (D ++ isort lt X)
theorem Full.sb {B : Nat} {L D : List α} (h : Full lt B L D) : ∀ {R Z : List α}, SB lt B R Z → SB lt B (L ++ R) (D ++ Z) := by
  induction h with
  | nil => intro R Z h; exact h
  | snoc L D X _ hX ih => intro R Z h; rw [List.append_assoc, List.append_assoc]; exact ih (.cons X R Z hX h)
theorem Full.len {B : Nat} {L D : List α} (h : Full lt B L D) : D.length = L.length := by
  induction h with
  | nil => rfl
  | snoc L D X _ hX ih => rw [List.length_append, List.length_append, ih, len_isort]
theorem sb_nil {B : Nat} (hB : 0 < B) {R Z : List α} (h : SB lt B R Z) (hR : R = []) : Z = [] := by
  cases h with
  | nil => rfl
  | last h => subst hR; rfl
  | cons X L D hX h => simp at hR; rw [hR.1] at hX; simp at hX; omega
theorem sb_short {B : Nat} (hB : 0 < B) {R Z : List α} (h : SB lt B R Z) (hR : R.length ≤ B) : Z = isort lt R := by
  cases h with
  | nil => rfl
  | last h => rfl
  | cons X L D hX h =>
    rw [List.length_append] at hR
    obtain rfl : L = [] := List.length_eq_zero_iff.1 (by omega)
    rw [sb_nil hB h rfl]; simp
theorem sb_head {B : Nat} (hB : 0 < B) {R Z : List α} (h : SB lt B R Z) (hR : B ≤ R.length) : ∃ X L D, R = X ++ L ∧ X.length = B ∧ Z = isort lt X ++ D ∧ SB lt B L D := by
  cases h with
  | nil => simp at hR; omega
  | last h => exact ⟨R, [], [], by simp, by omega, by simp, .nil⟩
  | cons X L D hX h => exact ⟨X, L, D, rfl, hX, rfl, h⟩
theorem SB.len {B : Nat} {L D : List α} (h : SB lt B L D) : D.length = L.length := by
  induction h with
  | nil => rfl
  | last X _ => exact len_isort _
  | cons X L D _ _ ih => rw [List.length_append, List.length_append, ih, len_isort]
end
variable {P : Program} {ρ : Ren} {α : Type} [Inhabited α]
theorem insK (L : LaysGt.n29 P ρ) (enc : α → List Value) (k : Nat) (hk : ∀ x, (enc x).length = k) (lt : α → α → Bool) (g : Nat) (lb : Array Value) (sf : Nat) (sb : Array Value) (blk off a b : Nat) (d : Array α) (w : World) (A M Q : List α)
    (eg : ∀ args w, (callFunc g args).run P w = .ok (.enter g args) w) (hless : LessReadsK P g lb enc k lt blk off d.size w) (hswap : SwapSwapsK P sf sb enc k blk off d.size)
    (hH : HoldsK enc k w blk off d) (hblk : blk < w.heap.size) (hsz : d.size < 4611686018427387904) (hd : d.toList = A ++ (M ++ Q)) (ha : A.length = a) (hb : a + M.length = b) :
    Calls P (ρ.f 29) #[.agg #[.func (.func g) #[] lb, .func (.func sf) #[] sb], .int .i64 a, .int .i64 b] w fun e w' => e = .returned (.tuple #[]) ∧ ∃ q os dk, w' = sortWorldK enc k w blk off q dk os ∧ dk.toList = A ++ (isort lt M ++ Q) := by
  have LI : LaysGg.n26 P ρ.viaGt := L.elder
  have hds : A.length + (M.length + Q.length) = d.size := by rw [← Array.length_toList, hd]; simp
  have h := Any.insertionSort_func_cells (ρ := ρ.viaGt) LI enc k hk lt g lb sf sb blk off a b d w eg hless hswap hH hblk (by omega) (by omega) hsz
  refine h.mono ?_
  rintro e w' ⟨rfl, n, rfl⟩
  have e : putRowK enc k (Sort.ahead (w.alloc (.cells #[.func (.func g) #[] lb, .func (.func sf) #[] sb] (ρ.viaGt.t 44))) n) blk off (insertionSort lt d a b) = sortWorldK enc k w blk off n (insertionSort lt d a b) #[.cells #[.func (.func g) #[] lb, .func (.func sf) #[] sb] (ρ.viaGt.t 44)] := by
    rw [alloc_eq_grow, ahead_grow, putRowK_grow enc k (Sort.ahead w n) _ blk off _ hblk]
    rfl
  exact ⟨rfl, n, _, _, e, insertionSort_list hd ha.symm hb.symm⟩
set_option maxHeartbeats 4000000 in
set_option maxRecDepth 1000000 in
theorem stable (L : LaysGt.n15 P ρ) (enc : α → List Value) (k : Nat) (hk : ∀ x, (enc x).length = k) (lt : α → α → Bool) (hS : SWO lt) (g : Nat) (lb : Array Value) (sf : Nat) (sb : Array Value) (blk off : Nat) (d : Array α) (w : World)
    (eg : ∀ args w, (callFunc g args).run P w = .ok (.enter g args) w) (hless : LessReadsK P g lb enc k lt blk off d.size w) (hswap : SwapSwapsK P sf sb enc k blk off d.size)
    (hH : HoldsK enc k w blk off d) (hblk : blk < w.heap.size) (hsz : d.size < 1152921504606846976) :
    Calls P (ρ.f 15) #[.agg #[.func (.func g) #[] lb, .func (.func sf) #[] sb], .int .i64 d.size] w fun e w' => e = .returned (.tuple #[]) ∧ ∃ q os dk, w' = sortWorldK enc k w blk off q dk os ∧ dk.toList = isort lt d.toList := by
  have mixed := L.mixed; have t0 := L.t0; have a0 := L.a0; have z0 := L.z0; have v0 := L.v0; have t3 := L.t3; have a3 := L.a3; have z3 := L.z3; have v3 := L.v3; have t4 := L.t4; have a4 := L.a4; have z4 := L.z4; have v4 := L.v4; have t26 := L.t26; have a26 := L.a26; have z26 := L.z26; have v26 := L.v26; have t38 := L.t38; have a38 := L.a38; have z38 := L.z38; have v38 := L.v38; have t42 := L.t42; have a42 := L.a42; have z42 := L.z42; have v42 := L.v42; have t47 := L.t47; have a47 := L.a47; have z47 := L.z47; have v47 := L.v47
  have u42 := run_underlying L.t42
  have e29 : ∀ args w, (callFunc (ρ.f 29) args).run P w = .ok (.enter (ρ.f 29) args) w := enters_of L.f29 (by kernel_rfl) rfl
  have e30 : ∀ args w, (callFunc (ρ.f 30) args).run P w = .ok (.enter (ρ.f 30) args) w := enters_of L.f30 (by kernel_rfl) rfl
  have LI : LaysGt.n29 P ρ := { L with }
  have LM : LaysGt.n30 P ρ := { L with }
  obtain ⟨n, hn⟩ : ∃ n, n = d.size := ⟨_, rfl⟩
  have hnl : d.toList.length = n := by rw [hn]; simp
  obtain ⟨W, hW⟩ : ∃ W, W = w.alloc (.cells #[.func (.func g) #[] lb, .func (.func sf) #[] sb] (ρ.t 42)) := ⟨_, rfl⟩
  have hH1 : HoldsK enc k W blk off d := by rw [hW, alloc_eq_grow]; exact holdsK_grow enc k w _ blk off d hblk hH
  have hb1 : blk < W.heap.size := by rw [hW, alloc_eq_grow, size_grow]; omega
  have hls : LessReadsK P g lb enc k lt blk off d.size W := by rw [hW, alloc_eq_grow]; exact hless.grow hblk _
  have bx0 : ∀ q (dk : Array α) os, (sortWorldK enc k W blk off q dk os).cell? ⟨w.heap.size, 0, none⟩ = some (.func (.func g) #[] lb) := fun q dk os => by
    rw [skCell enc k _ blk off q _ _ _ _ (by rw [hW]; simp) (by omega), hW]; simp
  have bx1 : ∀ q (dk : Array α) os, (sortWorldK enc k W blk off q dk os).cell? ⟨w.heap.size, 1, none⟩ = some (.func (.func sf) #[] sb) := fun q dk os => by
    rw [skCell enc k _ blk off q _ _ _ _ (by rw [hW]; simp) (by omega), hW]; simp
  have size : ∀ {dk : Array α} {l : List α}, dk.toList = l → l.length = n → dk.size = d.size := fun h e => ((size_of_list h).trans e).trans hn
  have bI : Aside (∀ (q : Nat) (dk : Array α) (os : Array Obj) (A M Q : List α) (a b : Nat), dk.toList = A ++ (M ++ Q) → dk.size = d.size → A.length = a → a + M.length = b →
      Calls P (ρ.f 29) #[.agg #[.func (.func g) #[] lb, .func (.func sf) #[] sb], .int .i64 a, .int .i64 b] (sortWorldK enc k W blk off q dk os) fun e w' => e = .returned (.tuple #[]) ∧ ∃ q os dk, w' = sortWorldK enc k W blk off q dk os ∧ dk.toList = A ++ (isort lt M ++ Q)) := by
    intro q dk os A M Q a b h1 hss h3 h4
    refine (insK LI enc k hk lt g lb sf sb blk off a b dk (sortWorldK enc k W blk off q dk os) A M Q eg (by rw [hss]; exact skLess hls hb1 q dk os hss) (by rw [hss]; exact hswap) (skHolds enc k W blk off q d dk os hb1 hH1 hss) (skLt enc k W blk off q dk os hb1) (by rw [hss]; omega) h1 h3 h4).mono ?_
    rintro e w' ⟨rfl, q', os', dk', rfl, hd'⟩
    exact ⟨rfl, q + q', os ++ os', dk', skOn enc k W blk off q q' dk dk' os os' hb1 (by rw [size_of_list hd', size_of_list h1]; simp [len_isort]), hd'⟩
  have bM : Aside (∀ (q : Nat) (dk : Array α) (os : Array Obj) (A X Y Q : List α) (a m b : Nat), dk.toList = A ++ (isort lt X ++ (isort lt Y ++ Q)) → dk.size = d.size → A.length = a → a + X.length = m → m + Y.length = b → 0 < X.length → 0 < Y.length →
      Calls P (ρ.f 30) #[.agg #[.func (.func g) #[] lb, .func (.func sf) #[] sb], .int .i64 a, .int .i64 m, .int .i64 b] (sortWorldK enc k W blk off q dk os) fun e w' => e = .returned (.tuple #[]) ∧ ∃ q os dk, w' = sortWorldK enc k W blk off q dk os ∧ dk.toList = A ++ (isort lt (X ++ Y) ++ Q)) := by
    intro q dk os A X Y Q a m b h1 hss h3 h4 h5 h6 h7
    refine (symMerge LM enc k hk lt hS g lb sf sb blk off eg (b - a) a m b dk (sortWorldK enc k W blk off q dk os) A (isort lt X) (isort lt Y) Q (Nat.le_refl _) (by rw [hss]; exact skLess hls hb1 q dk os hss) (by rw [hss]; exact hswap) (skHolds enc k W blk off q d dk os hb1 hH1 hss) (skLt enc k W blk off q dk os hb1) (by rw [hss]; omega) h1 h3 (by rw [len_isort]; exact h4) (by rw [len_isort]; exact h5) (by rw [len_isort]; exact h6) (by rw [len_isort]; exact h7) (asc_isort hS _) (asc_isort hS _)).mono ?_
    rintro e w' ⟨rfl, q', os', dk', rfl, hd'⟩
    exact ⟨rfl, q + q', os ++ os', dk', skOn enc k W blk off q q' dk dk' os os' hb1 (by rw [size_of_list hd', size_of_list h1]; simp [len_mrg, len_isort]; omega), by rw [hd', isort_append hS]⟩
  have bFin : Aside (∀ q (dk : Array α) os, dk.size = d.size → ∃ q' os', sortWorldK enc k W blk off q dk os = sortWorldK enc k w blk off q' dk os') := by
    intro q dk os h
    have hh := skAlloc enc k w (.cells #[.func (.func g) #[] lb, .func (.func sf) #[] sb] (ρ.t 42)) blk off q dk os hblk d hH h
    rw [← hW] at hh
    exact ⟨q, _, hh⟩
  have bS : Aside (W = sortWorldK enc k W blk off 0 d #[]) := (skStart enc k _ blk off d hH1).symm
  have bW : Aside _ := hW
  have bn : Aside (n = d.size ∧ d.toList.length = n ∧ ∀ {dk : Array α} {l : List α}, dk.toList = l → l.length = n → dk.size = d.size) := ⟨hn, hnl, size⟩
  have hsz2 : n < 1152921504606846976 := by omega
  rw [← hn]
  generalize hdl : d.toList = l at bn hnl ⊢
  have bdl : Aside _ := hdl
  clear hls hless hswap hH hH1 hW hn size hdl hsz
  go_enter L.f15, BodyGt.n15_ntmps ρ
  go_wp2
  go_loopg [5, 6] (n + 1) (fun kk s5 s6 wr => ∃ (i q : Nat) (os : Array Obj) (dk : Array α) (A L1 R : List α), s5 = .int .i64 i ∧ s6 = .int .i64 ((i : Int) + 20) ∧ Aside (Full lt 20 L1 A ∧ l = L1 ++ R ∧ L1.length = i ∧ dk.toList = A ++ R) ∧ i + R.length = n ∧ R.length + 1 ≤ kk ∧ wr = sortWorldK enc k W blk off q dk os)
  case atStart => exact ⟨0, 0, #[], d, [], [], l, rfl, rfl, ⟨.nil, rfl, rfl, bdl⟩, by omega, by omega, bW.out.symm.trans bS⟩
  case round =>
    obtain ⟨i, q, os, dk, A, L1, R, rfl, rfl, bF, hin, hkk, rfl⟩ := hrel
    by_cases h20 : i + 20 ≤ n
    · have hc := bI.out q dk os A (R.take 20) (R.drop 20) i (i + 20) (by rw [bF.out.2.2.2, List.take_append_drop]) (bn.out.2.2 bF.out.2.2.2 (by rw [List.length_append, bF.out.1.len, bF.out.2.2.1]; exact hin)) (by rw [bF.out.1.len]; exact bF.out.2.2.1) (by rw [List.length_take]; omega)
      rw [Int.natCast_add] at hc
      simp only [Int.cast_ofNat_Int] at hc
      go_wp2
      go_wp2_with (go_at_fn (ρ.f 29); refine hc.mono ?_; rintro e w1 ⟨rfl, q', os', dk', rfl, hd'⟩)
      go_roundg (gk - 20)
      case measure => omega
      case rel =>
        refine ⟨i + 20, q', os', dk', A ++ isort lt (R.take 20), L1 ++ R.take 20, R.drop 20, by first | rfl | (congr 1; omega), by first | rfl | (congr 1; omega), ⟨.snoc _ _ _ bF.out.1 (by rw [List.length_take]; omega), ?_, ?_, ?_⟩, by rw [List.length_drop]; omega, by rw [List.length_drop]; omega, rfl⟩
        · rw [List.append_assoc, List.take_append_drop]; exact bF.out.2.1
        · rw [List.length_append, bF.out.2.2.1, List.length_take]; omega
        · rw [hd', List.append_assoc]
    · have hc := bI.out q dk os A R [] i n (by rw [bF.out.2.2.2, List.append_nil]) (bn.out.2.2 bF.out.2.2.2 (by rw [List.length_append, bF.out.1.len, bF.out.2.2.1]; exact hin)) (by rw [bF.out.1.len]; exact bF.out.2.2.1) hin
      go_wp2
      go_wp2_with (go_at_fn (ρ.f 29); refine hc.mono ?_; rintro e w1 ⟨rfl, q', os', dk', rfl, hd'⟩)
      have bB : Aside (SB lt 20 l dk'.toList) := by
        show SB lt 20 l dk'.toList
        rw [hd', bF.out.2.1, List.append_nil]
        exact bF.out.1.sb (.last R (by omega))
      have bz : Aside (dk'.size = d.size) := bn.out.2.2 hd' (by rw [List.length_append, List.length_append, len_isort, bF.out.1.len, bF.out.2.2.1]; simpa using hin)
      clear hd' hc bF hkk hin h20
      go_loopg [4, 5, 6, 7] n (fun kk s4 s5 s6 s7 wr => ∃ (B q : Nat) (os : Array Obj) (dk : Array α), s4 = .int .i64 B ∧ 20 ≤ B ∧ B < 1152921504606846976 * 2 ∧ n - B ≤ kk ∧ Aside (SB lt B l dk.toList ∧ dk.size = d.size) ∧ wr = sortWorldK enc k W blk off q dk os)
      case atStart => exact ⟨20, q', os', dk', rfl, by omega, by omega, by omega, ⟨bB, bz⟩, rfl⟩
      case round =>
        obtain ⟨B, q, os, dk, rfl, hB20, hBm, hkk, bF, rfl⟩ := hrel
        clear bB bz
        by_cases hB : B < n
        · go_wp2
          go_loopg [5, 6] n (fun kk s5 s6 wr => ∃ (i q : Nat) (os : Array Obj) (dk : Array α) (A Z L1 R : List α), s5 = .int .i64 i ∧ s6 = .int .i64 ((i : Int) + 2 * (B : Int)) ∧ Aside (Full lt (2 * B) L1 A ∧ SB lt B R Z ∧ l = L1 ++ R ∧ L1.length = i ∧ dk.toList = A ++ Z) ∧ i + R.length = n ∧ R.length ≤ kk ∧ wr = sortWorldK enc k W blk off q dk os)
          case atStart => exact ⟨0, q, os, dk, [], dk.toList, [], l, rfl, by first | rfl | (congr 1; omega), ⟨.nil, bF.out.1, rfl, rfl, rfl⟩, by omega, by omega, rfl⟩
          case round =>
            rename_i gk0 _ _ _ _
            clear bF
            obtain ⟨i, q, os, dk, A, Z, L1, R, rfl, rfl, bF, hin, hkk2, rfl⟩ := hrel
            have bz : Aside (dk.size = d.size) := bn.out.2.2 bF.out.2.2.2.2 (by rw [List.length_append, bF.out.1.len, bF.out.2.1.len, bF.out.2.2.2.1]; exact hin)
            by_cases h2 : i + 2 * B ≤ n
            · obtain ⟨X, R1, D1, rfl, hX, rfl, h1⟩ := sb_head (by omega) bF.out.2.1 (by omega)
              obtain ⟨Y, R2, D2, rfl, hY, rfl, h3⟩ := sb_head (by omega) h1 (by rw [List.length_append] at hin; omega)
              have hin' : i + (X.length + (Y.length + R2.length)) = n := by rw [← hin, List.length_append, List.length_append]
              have hkk' : X.length + (Y.length + R2.length) ≤ gk := by rw [List.length_append, List.length_append] at hkk2; exact hkk2
              have hc := bM.out q dk os A X Y D2 i (i + B) (i + 2 * B) bF.out.2.2.2.2 bz.out (by rw [bF.out.1.len]; exact bF.out.2.2.2.1) (by omega) (by omega) (by omega) (by omega)
              rw [show ((i + B : Nat) : Int) = (i : Int) + (B : Int) by omega, show ((i + 2 * B : Nat) : Int) = (i : Int) + 2 * (B : Int) by omega] at hc
              have b3 : Aside (SB lt B R2 D2) := h3
              clear h1 h3 hin hkk2
              go_wp2_with (go_at_fn (ρ.f 30); refine hc.mono ?_; rintro e w1 ⟨rfl, q', os', dk', rfl, hd'⟩)
              go_roundg (gk - 2 * B)
              case measure => omega
              case rel =>
                refine ⟨i + 2 * B, q', os', dk', A ++ isort lt (X ++ Y), D2, L1 ++ (X ++ Y), R2, by first | rfl | (congr 1; omega), by first | rfl | (congr 1; omega), ⟨.snoc _ _ _ bF.out.1 (by rw [List.length_append]; omega), b3, ?_, ?_, ?_⟩, by omega, by omega, rfl⟩
                · rw [bF.out.2.2.1]; simp
                · rw [List.length_append, bF.out.2.2.2.1, List.length_append]; omega
                · rw [hd', List.append_assoc]
            · by_cases h3 : i + B < n
              · obtain ⟨X, R1, D1, rfl, hX, rfl, h1⟩ := sb_head (by omega) bF.out.2.1 (by omega)
                have hin' : i + (X.length + R1.length) = n := by rw [← hin, List.length_append]
                obtain rfl := sb_short (by omega) h1 (by omega)
                have hc := bM.out q dk os A X R1 [] i (i + B) n (by rw [bF.out.2.2.2.2, List.append_nil]) bz.out (by rw [bF.out.1.len]; exact bF.out.2.2.2.1) (by omega) (by omega) (by omega) (by omega)
                rw [show ((i + B : Nat) : Int) = (i : Int) + (B : Int) by omega] at hc
                clear h1 hin hkk2
                go_wp2_with (go_at_fn (ρ.f 30); refine hc.mono ?_; rintro e w1 ⟨rfl, q', os', dk', rfl, hd'⟩)
                go_roundg (n - 2 * B)
                case measure => omega
                case rel =>
                  refine ⟨2 * B, q', os', dk', by first | rfl | (congr 1; omega), by omega, by omega, Nat.le_refl _, ⟨?_, ?_⟩, rfl⟩
                  · rw [hd', bF.out.2.2.1, List.append_nil]
                    exact bF.out.1.sb (.last _ (by rw [List.length_append]; omega))
                  · exact bn.out.2.2 hd' (by rw [List.length_append, List.length_append, len_isort, bF.out.1.len, bF.out.2.2.2.1, List.length_append]; simpa using hin')
              · go_wp2
                go_roundg (n - 2 * B)
                case measure => omega
                case rel =>
                  refine ⟨2 * B, q, os, dk, by first | rfl | (congr 1; omega), by omega, by omega, Nat.le_refl _, ⟨?_, bz⟩, rfl⟩
                  have := sb_short (by omega) bF.out.2.1 (by omega)
                  rw [bF.out.2.2.2.2, bF.out.2.2.1, this]
                  exact bF.out.1.sb (.last _ (by omega))
        · have bE : Aside (∃ q' os' dk', sortWorldK enc k W blk off q dk os = sortWorldK enc k w blk off q' dk' os' ∧ dk'.toList = isort lt l) := by
            obtain ⟨q', os', h⟩ := bFin.out q dk os bF.out.2
            exact ⟨q', os', dk, h, sb_short (by omega) bF.out.1 (by omega)⟩
          clear bF
          go_wp2
          go_end0
          exact ⟨rfl, bE.out⟩
end Go.Proofs.YtbbfkodckpfjcaaGreat.St

/- sort.SliceStable at elements of k cells, of any number: what the row holds: the insertion sort's, to the element. -/
namespace Go.Proofs.YtbbfkodckpfjcaaGreat.St
open Go Go.Proofs Go.Shelf Go.RowKit Go.Lib Go.Sort
variable {P : Program} {ρ : Ren} {α : Type} [Inhabited α]
theorem sliceStable (L : LaysGt.n8 P ρ) (t e : TypeId) (i ie : TypeInfo) (hi : P.info? t = some i) (hd : i.desc = .slice e) (hpk : P.packed t = false) (hie : P.info? e = some ie) (ke : Nat) (hke : ∀ w, (Extern.Rtype.kind e).run P w = .ok ke w)
    (enc : α → List Value) (k : Nat) (hk : ∀ x, (enc x).length = k) (hs1 : ie.size = k) (hagg : ∀ w, (isAgg e).run P w = .ok true w) (h1 : ∀ x, ∀ v ∈ enc x, v.oneCell' = true) (lt : α → α → Bool) (hS : SWO lt) (g : Nat) (lb : Array Value)
    (eg : ∀ args w, (callFunc g args).run P w = .ok (.enter g args) w) (blk off c : Nat) (d : Array α) (h2 : 2 ≤ d.size) (hsz : d.size < 1152921504606846976)
    (f : Nat) (hf : P.funcs.findIdx? (·.name == "internal/reflectlite" ++ ".Swapper$" ++ toString (swapperK d.size ie ke)) = some f)
    (gS : Bool) (hx : ∀ args W, (callFunc f args).run P W = ((Extern.ReflectliteSwapper.swap gS args).run P W).andThen fun v w' => .ok (.value v) w')
    (w : World) (hless : LessReadsK P g lb enc k lt blk off d.size w) (hH : HoldsK enc k w blk off d) (hblk : blk < w.heap.size) :
    Calls P (ρ.f 8) #[.iface t (.slice (some ⟨blk, off, none⟩) d.size c), .func (.func g) #[] lb] w fun e w' =>
      e = .returned (.tuple #[]) ∧ ∃ n os, w' = grow (putRowK enc k (Sort.ahead w n) blk off (Sort.insertionSort lt d 0 d.size)) os := by
  refine Any.sort_SliceStable_of_stable L t e i ie hi hd hpk hie ke hke _ d.size c (by omega) f hf (.func g) #[] lb w _ ?_
  have hB : sliceBound P e ie ke (some ⟨blk, off, none⟩) d.size c = #[.slice (some ⟨blk, off, none⟩) d.size c, typeHandle P e] := by
    unfold sliceBound; rw [if_neg (swapperK_gt _ _ _ h2)]
  have hW : stableWorld P ρ t (some ⟨blk, off, none⟩) d.size c w = grow w #[.cells #[.slice (some ⟨blk, off, none⟩) d.size c] t, .cells #[.pointer (some ⟨P.globals.size, t, none⟩), .pointer (some ⟨w.heap.size, 0, none⟩), .int .u64 151] (ρ.t 36)] := by
    unfold stableWorld; rw [alloc_eq_grow, alloc_eq_grow, grow_grow]; rfl
  generalize (#[.cells #[.slice (some ⟨blk, off, none⟩) d.size c] t, .cells #[.pointer (some ⟨P.globals.size, t, none⟩), .pointer (some ⟨w.heap.size, 0, none⟩), .int .u64 151] (ρ.t 36)] : Array Obj) = os0 at hW
  rw [hB, hW]
  have hp := stable (P := P) (ρ := ρ) { L with } enc k hk lt hS g lb f _ blk off d (grow w os0) eg (hless.grow hblk os0)
    (swapSwapsK_of_literal gS f hx e ie hie enc k hk hs1 hagg h1 blk off d.size c) (holdsK_grow enc k w _ blk off d hblk hH) (by rw [size_grow]; omega) hsz
  refine hp.mono ?_
  rintro e w' ⟨rfl, n, os, dk, rfl, hdk⟩
  have e2 : dk = Sort.insertionSort lt d 0 d.size := by
    apply Array.toList_inj.1
    have := insertionSort_list (lt := lt) (d := d) (A := []) (M := d.toList) (Q := []) (a := 0) (b := d.size) (by simp) rfl (by simp)
    rw [hdk, this]; simp
  subst e2
  exact ⟨rfl, n, _, by unfold sortWorldK; rw [ahead_grow, putRowK_grow enc k (Sort.ahead w n) _ blk off _ hblk, grow_grow]⟩
end Go.Proofs.YtbbfkodckpfjcaaGreat.St

namespace Go.Proofs.YtbbfkodckpfjcaaGreat.M2
open Go Go.Shelf Go.RowKit Go.Lib Go.Sort Go.Proofs.YtbbfkodckpfjcaaGreat.PK Go.Proofs.YtbbfkodckpfjcaaGreat.St
set_option linter.unusedVariables false
set_option linter.unusedSimpArgs false
noncomputable def lays8_ren : Go.Shelf.Ren:=⟨fun | 8=>78 | 13=>92 | 14=>93 | 16=>95 | 15=>94 | 29=>110 | 30=>111 | 42=>113 | 49=>115 | n=>n,fun | 20=>20 | 26=>131 | 36=>149 | 0=>0 | 38=>151 | 42=>155 | 3=>3 | 4=>4 | 47=>141 | 17=>17 | 33=>146 | 34=>147 | 89=>180 | 12=>12 | 56=>121 | 82=>173 | 5=>5 | 83=>174 | 84=>175 | 85=>176 | 86=>177 | 87=>178 | n=>n,fun n=>n⟩
theorem lays8 : LaysGt.n8 Tryz.prog lays8_ren where
 mixed:=by kernel_rfl
 f8:=Tryz.func78.trans (congrArg some (by kernel_rfl))
 f13:=Tryz.func92.trans (congrArg some (by kernel_rfl))
 f14:=Tryz.func93.trans (congrArg some (by kernel_rfl))
 f15:=Tryz.func94.trans (congrArg some (by kernel_rfl))
 f16:=Tryz.func95.trans (congrArg some (by kernel_rfl))
 f29:=Tryz.func110.trans (congrArg some (by kernel_rfl))
 f30:=Tryz.func111.trans (congrArg some (by kernel_rfl))
 f42:=Tryz.func113.trans (congrArg some (by kernel_rfl))
 f49:=Tryz.func115.trans (congrArg some (by kernel_rfl))
 t0:=Tryz.underlying0
 a0:=Tryz.isAgg0
 z0:=Tryz.sizeOf0
 v0:=Tryz.zeroValue0
 i0:=by kernel_rfl
 t3:=Tryz.underlying3
 a3:=Tryz.isAgg3
 z3:=Tryz.sizeOf3
 v3:=Tryz.zeroValue3
 i3:=by kernel_rfl
 t4:=Tryz.underlying4
 a4:=Tryz.isAgg4
 z4:=Tryz.sizeOf4
 v4:=Tryz.zeroValue4
 i4:=by kernel_rfl
 t5:=Tryz.underlying5
 a5:=Tryz.isAgg5
 z5:=Tryz.sizeOf5
 v5:=Tryz.zeroValue5
 i5:=by kernel_rfl
 t12:=Tryz.underlying12
 a12:=Tryz.isAgg12
 z12:=Tryz.sizeOf12
 v12:=Tryz.zeroValue12
 i12:=by kernel_rfl
 t17:=Tryz.underlying17
 a17:=Tryz.isAgg17
 z17:=Tryz.sizeOf17
 v17:=Tryz.zeroValue17
 i17:=by kernel_rfl
 t20:=Tryz.underlying20
 a20:=Tryz.isAgg20
 z20:=Tryz.sizeOf20
 v20:=Tryz.zeroValue20
 i20:=by kernel_rfl
 t26:=Tryz.underlying131
 a26:=Tryz.isAgg131
 z26:=Tryz.sizeOf131
 v26:=Tryz.zeroValue131
 i26:=by kernel_rfl
 t33:=Tryz.underlying146
 a33:=Tryz.isAgg146
 z33:=Tryz.sizeOf146
 v33:=Tryz.zeroValue146
 i33:=by kernel_rfl
 t34:=Tryz.underlying147
 a34:=Tryz.isAgg147
 z34:=Tryz.sizeOf147
 v34:=Tryz.zeroValue147
 i34:=by kernel_rfl
 t36:=Tryz.underlying149
 a36:=Tryz.isAgg149
 z36:=Tryz.sizeOf149
 v36:=Tryz.zeroValue149
 i36:=by kernel_rfl
 t38:=Tryz.underlying151
 a38:=Tryz.isAgg151
 z38:=Tryz.sizeOf151
 v38:=Tryz.zeroValue151
 i38:=by kernel_rfl
 t42:=Tryz.underlying155
 a42:=Tryz.isAgg155
 z42:=Tryz.sizeOf155
 v42:=Tryz.zeroValue155
 i42:=by kernel_rfl
 t47:=Tryz.underlying141
 a47:=Tryz.isAgg141
 z47:=Tryz.sizeOf141
 v47:=Tryz.zeroValue141
 i47:=by kernel_rfl
 t56:=Tryz.underlying121
 a56:=Tryz.isAgg121
 z56:=Tryz.sizeOf121
 v56:=Tryz.zeroValue121
 i56:=by kernel_rfl
 t82:=Tryz.underlying173
 a82:=Tryz.isAgg173
 z82:=Tryz.sizeOf173
 v82:=Tryz.zeroValue173
 i82:=by kernel_rfl
 t83:=Tryz.underlying174
 a83:=Tryz.isAgg174
 z83:=Tryz.sizeOf174
 v83:=Tryz.zeroValue174
 i83:=by kernel_rfl
 t84:=Tryz.underlying175
 a84:=Tryz.isAgg175
 z84:=Tryz.sizeOf175
 v84:=Tryz.zeroValue175
 i84:=by kernel_rfl
 t85:=Tryz.underlying176
 a85:=Tryz.isAgg176
 z85:=Tryz.sizeOf176
 v85:=Tryz.zeroValue176
 i85:=by kernel_rfl
 t86:=Tryz.underlying177
 a86:=Tryz.isAgg177
 z86:=Tryz.sizeOf177
 v86:=Tryz.zeroValue177
 i86:=by kernel_rfl
 t87:=Tryz.underlying178
 a87:=Tryz.isAgg178
 z87:=Tryz.sizeOf178
 v87:=Tryz.zeroValue178
 i87:=by kernel_rfl
 t89:=Tryz.underlying180
 a89:=Tryz.isAgg180
 z89:=Tryz.sizeOf180
 v89:=Tryz.zeroValue180
 i89:=by kernel_rfl
noncomputable def svT : TypeInfo:=(Tryz.prog.info? 53).get (by kernel_rfl)
noncomputable def svE : TypeInfo:=(Tryz.prog.info? 75).get (by kernel_rfl)
theorem svK (n : Nat) (h2 : 2 ≤ n) : Lib.swapperK n svE 25 = 9:=by
 have a : svE.hasPointers = true:=by kernel_rfl
 have b : svE.bytes = 72:=by kernel_rfl
 have c : (n == 0) = false:=by simp;omega
 have d : (n == 1) = false:=by simp;omega
 simp [Lib.swapperK,a,b,c,d]
def encK (x : S75) : List Value:=[.int .i64 x.f0,.int .i64 x.f1,.int .i64 x.f2.f0,.int .i64 x.f2.f1,.int .i64 x.f2.f2,.int .i64 x.f2.f3,.int .i64 x.f2.f4,.string x.f2.f5]
theorem swoK : SWO ltK75 where
 irrefl:=fun x=>by simp [ltK75]
 trans:=fun x y z h1 h2=>by simp [ltK75] at *;omega
 ntrans:=fun x y z h1 h2=>by simp [ltK75] at *;omega
set_option maxHeartbeats 2000000 in
theorem lessC (blk off c Bs size : Nat) (W : World) (G : Nat → Int) (h1 : W.cell? ⟨Bs,0,none⟩ = some (.slice (some ⟨blk,off,none⟩) size c))
  (hc : ∀ t,t < size → W.cell? ⟨blk,off + t * 8 + 3,none⟩ = some (.int .i64 (G t))) (i j : Nat) (hi : i < size) (hj : j < size) (_hsz : size < 4611686018427387904) :
  Calls Tryz.prog 79 #[.int .i64 i,.int .i64 j,.pointer (some ⟨Bs,0,none⟩)] W fun e w'=>e = .returned (.bool (decide (G i < G j))) ∧ ∃ q,w' = W.drewN q:=by
 have ci:=hc i hi;have cj:=hc j hj
 go_enter Tryz.func79,Tryz.ntmps79
 go_wp2
 go_quiet (fail)
 go_wp2
 go_ret
 exact ⟨rfl,nq,rfl⟩
theorem lsort_len (l : List S75) : (lsort75 l).length = l.length:=by
 have h:=insertionSort_holds (lt:=ltK75) swoK l.toArray 0 l.length (Nat.zero_le _) (by simp);unfold lsort75;rw [Array.length_toList,h.1.1];simp
theorem lsort_tiny {l : List S75} (h : l.length ≤ 1) : lsort75 l = l:=by
 unfold lsort75 insertionSort;rw [insOuter,if_neg (by omega)]
theorem holds_of {w : World} {l : List S75} {gg o cap : Nat} (hr : RowAt kit w .t75 l gg o cap) : HoldsK encK 8 w gg o l.toArray:=by
 obtain ⟨arr,e,h1,h2,h3⟩:=hr;intro j hj;have hj : j < l.length * 8:=by simpa using hj
 refine ⟨?_,by simp [World.frozen?,h1]⟩;have hi : j / 8 < l.length:=by omega
 rw [get_flatK _ _ _ j (by simpa using hj)];have e1 : (l.toArray)[j / 8]! = l[j / 8]:=by rw [getElem!_pos _ _ (by simpa using hi)];simp
 rw [e1];have hx : l[j / 8]? = some l[j / 8]:=List.getElem?_eq_getElem hi;have hc : w.cell? ⟨gg,o + j,none⟩ = arr[o + j]?:=by simp [World.cell?,h1]
 have h2 : j % 8 = 0 ∨ j % 8 = 1 ∨ j % 8 = 2 ∨ j % 8 = 3 ∨ j % 8 = 4 ∨ j % 8 = 5 ∨ j % 8 = 6 ∨ j % 8 = 7:=by omega
 rw [hc]
 have key : ∀ c,c < 8 → j % 8 = c → ∀ v,(kit.emb .t75 l[j / 8])[c]? = some (.sc v) → arr[o + j]? = some v:=fun c hc hm v hv=>by
  have:=h3 _ _ hx c (.sc v) hv;rw [show o + (j / 8 * kit.cells .t75 + c) = o + j by show o + (j / 8 * 8 + c) = _;omega] at this;exact this
 rcases h2 with h | h | h | h | h | h | h | h
 ·rw [key 0 (by omega) h _ rfl,h];rfl
 ·rw [key 1 (by omega) h _ rfl,h];rfl
 ·rw [key 2 (by omega) h _ rfl,h];rfl
 ·rw [key 3 (by omega) h _ rfl,h];rfl
 ·rw [key 4 (by omega) h _ rfl,h];rfl
 ·rw [key 5 (by omega) h _ rfl,h];rfl
 ·rw [key 6 (by omega) h _ rfl,h];rfl
 rw [key 7 (by omega) h _ rfl,h];rfl
theorem row_of {w : World} {l : List S75} {gg o cap : Nat} {arr : Array Value} {e : TypeId} (h1 : w.heap[gg]? = some (.cells arr e (0,0))) (h2 : o + cap * 8 ≤ arr.size) (hl : l.length ≤ cap)
  (h : ∀ j,j < l.length * 8 → arr[o + j]? = some ((encK (l.toArray)[j / 8]!)[j % 8]!)) : RowAt kit w .t75 l gg o cap:=by
 refine ⟨arr,e,h1,h2,fun i x hx j c hj=>?_⟩;have hi : i < l.length:=(List.getElem?_eq_some_iff.1 hx).1;have hxe : l[i] = x:=(List.getElem?_eq_some_iff.1 hx).2;have hj2 : j < 8:=(List.getElem?_eq_some_iff.1 hj).1;have:=h (i * 8 + j) (by omega);rw [show (i * 8 + j) / 8 = i by omega,show (i * 8 + j) % 8 = j by omega] at this;have e1 : (l.toArray)[i]! = x:=by rw [getElem!_pos _ _ (by simpa using hi)];simpa using hxe
 rw [e1] at this;show arr[o + (i * 8 + j)]? = _;rw [this];have hj3 : j = 0 ∨ j = 1 ∨ j = 2 ∨ j = 3 ∨ j = 4 ∨ j = 5 ∨ j = 6 ∨ j = 7:=by omega
 rcases hj3 with rfl | rfl | rfl | rfl | rfl | rfl | rfl | rfl <;> cases hj <;> rfl
theorem kept_grow {w : World} {os : Array Obj} {O : Nat → Prop} : Kept w (grow w os) O:=⟨rfl,rfl,rfl,by simp,fun k hk _=>heap_grow_old _ _ hk⟩
theorem libRun (w : World) (a : Option Addr) (cap : Nat) (l : List S75) (b : Nat) (hlim : l.length ≤ 576460752303423488) (hle : l.length ≤ cap) (hcap : 0 < cap → ∃ gg o,a = some ⟨gg,o,none⟩ ∧ RowAt kit w .t75 l gg o cap ∧ Held w (.slice a l.length cap) b gg none) :
  Calls Tryz.prog 78 #[.iface 53 (.slice a l.length cap),.func (.func 79) #[] #[.pointer (some ⟨b,0,none⟩)]] w fun ev w'=>ev = .returned (.tuple #[]) ∧
   (cap = 0 ∧ Kept w w' (fun _=>False) ∨ 0 < cap ∧ ∃ gg o,a = some ⟨gg,o,none⟩ ∧ Kept w w' (· = gg) ∧ RowAt kit w' .t75 (lsort75 l) gg o cap):=by
 have tiny : l.length ≤ 1 → Calls Tryz.prog 78 #[.iface 53 (.slice a l.length cap),.func (.func 79) #[] #[.pointer (some ⟨b,0,none⟩)]] w fun e w'=>e = .returned (.tuple #[]) ∧ ∃ os,w' = grow w os:=fun h1=>by
  have hsw : ∀ n, n ≤ 1 → ∃ f, Tryz.prog.funcs.findIdx? (·.name == "internal/reflectlite" ++ ".Swapper$" ++ toString (swapperK n svE 25)) = some f := fun n hn => by
   match n,hn with
   | 0,_=>exact ⟨101,by kernel_rfl⟩
   | 1,_=>exact ⟨102,by kernel_rfl⟩
  obtain ⟨fs,hfs⟩:=hsw l.length h1;exact Any.sort_SliceStable_tiny lays8 53 75 svT svE (by kernel_rfl) (by kernel_rfl) (by kernel_rfl) (by kernel_rfl) 25 (fun _=>by kernel_rfl) a l.length cap h1 fs hfs _ _ _ w
 by_cases hc0 : cap = 0
 ·refine (tiny (by omega)).mono fun ev w' ⟨h1,os,h2⟩=>⟨h1,.inl ⟨hc0,?_⟩⟩;rw [h2];exact kept_grow
 obtain ⟨gg,o,ha,hrow,hheld⟩:=hcap (by omega)
 have hgg : gg < w.heap.size:=by
  obtain ⟨arr,e,h1,_⟩:=hrow;exact (Array.getElem?_eq_some_iff.1 h1).1
 by_cases h1 : l.length ≤ 1
 ·refine (tiny h1).mono fun ev w' ⟨h2,os,h3⟩=>⟨h2,.inr ⟨by omega,gg,o,ha,?_,?_⟩⟩
  ·rw [h3];exact kept_grow
  obtain ⟨arr,e,q1,q2,q3⟩:=hrow;have : lsort75 l = l:=lsort_tiny h1;rw [this,h3];exact ⟨arr,e,by rw [heap_grow_old _ _ hgg];exact q1,q2,q3⟩
 have hH:=holds_of hrow;subst ha;obtain ⟨hb1,hb2,hs1⟩:=hheld
 have hless : LessReadsK Tryz.prog 79 #[.pointer (some ⟨b,0,none⟩)] encK 8 ltK75 gg o l.toArray.size w:=by
  intro m os dk hs i j hi hj
  have e : sortWorldK encK 8 w gg o m dk os = putRowK encK 8 (grow (Sort.ahead w m) os) gg o dk:=by
   unfold sortWorldK;rw [putRowK_grow _ _ (Sort.ahead w m) _ gg o _ hgg]
  have hHg : HoldsK encK 8 (grow (Sort.ahead w m) os) gg o l.toArray:=holdsK_grow _ _ _ _ gg o l.toArray hgg (holdsK_ahead _ _ _ _ _ _ _ hH);have hsz : l.toArray.size = l.length:=by simp
  refine lessC gg o cap b l.length _ (fun t=>dk[t]!.f2.f1) ?_ (fun t ht=>?_) i j (by omega) (by omega) (by omega)
  ·rw [e,cell?_putRowK_other _ _ _ gg o dk _ hb1,cell?_grow _ _ _ (show b < (Sort.ahead w m).heap.size from hb2)];exact hs1
  rw [e];exact ((holdsK_putRowK _ _ _ gg o l.toArray dk hHg hs).cell (i:=t) (c:=3) (by omega) (by omega)).1
 have hS:=sliceStable lays8 53 75 svT svE (by kernel_rfl) (by kernel_rfl) (by kernel_rfl) (by kernel_rfl) 25 (fun _=>by kernel_rfl) encK 8 (fun _=>rfl) (by kernel_rfl) (fun _=>by kernel_rfl)
  (fun x v hv=>by simp [encK] at hv;rcases hv with rfl | rfl | rfl | rfl | rfl | rfl | rfl | rfl <;> rfl) ltK75 swoK 79 _
  (enters_of Tryz.func79 (by kernel_rfl) rfl) gg o cap l.toArray (by simp;omega) (by simp;omega) 109 (by rw [svK _ (by simp;omega)];kernel_rfl) false
  (fun args W=>run_callFunc_extern Tryz.func109 (by kernel_rfl) (by kernel_rfl) (by kernel_rfl) (e:=Extern.ReflectliteSwapper.swap false) (by kernel_rfl) args W) w hless hH hgg
 have hz : l.toArray.size = l.length:=by simp
 rw [hz] at hS;refine hS.mono fun ev w' ⟨he,n,os,hw⟩=>⟨he,.inr ⟨by omega,gg,o,rfl,?_,?_⟩⟩
 ·rw [hw];refine ⟨rfl,rfl,rfl,by simp [putRowK],fun k hk hne=>?_⟩;have hne : ¬ gg = k:=fun e=>hne e.symm;rw [heap_grow_old _ _ (by simpa [putRowK] using hk)];simp [putRowK,putRow,mapBlock,Sort.ahead,Array.getElem?_modify,hne]
 obtain ⟨arr,e,q1,q2,q3⟩:=hrow
 have hh : w'.heap[gg]? = some (.cells (putCells id o (flatK encK 8 (insertionSort ltK75 l.toArray 0 l.length)) arr) e (0,0)):=by
  rw [hw,heap_grow_old _ _ (by simpa [putRowK] using hgg)];simp [putRowK,putRow,mapBlock,Sort.ahead,Array.getElem?_modify,q1,onCells]
 have hls : (lsort75 l).length = l.length:=lsort_len l;have q2 : o + cap * 8 ≤ arr.size:=q2;refine row_of hh (by simpa [putCells] using q2) (by rw [hls];exact hle) fun j hj=>?_;rw [hls] at hj
 have hsz2 : (insertionSort ltK75 l.toArray 0 l.length).size = l.length:=by
  have:=lsort_len l;unfold lsort75 at this
  rwa [Array.length_toList] at this
 have hta : (lsort75 l).toArray = insertionSort ltK75 l.toArray 0 l.length:=by
  show (insertionSort ltK75 l.toArray 0 l.length).toList.toArray = _;simp
 rw [hta,← get_flatK _ _ _ j (by rw [hsz2];exact hj)];have hb : o + j < arr.size:=by omega
 simp [putCells,hb,hsz2,hj]
theorem elemIs0 (t : TypeId) (h : kit.elem t = some .t75) : t = 53 := by
  have h : (bif Nat.beq t 22 then some Ty.t91 else bif Nat.beq t 25 then some Ty.t104 else bif Nat.beq t 26 then some Ty.t119 else bif Nat.beq t 36 then some Ty.t68 else bif Nat.beq t 39 then some Ty.t80 else bif Nat.beq t 40 then some Ty.t128 else bif Nat.beq t 53 then some Ty.t75 else bif Nat.beq t 66 then some Ty.t96 else bif Nat.beq t 89 then some Ty.t139 else bif Nat.beq t 108 then some Ty.t133 else bif Nat.beq t 117 then some Ty.t3 else bif Nat.beq t 134 then some Ty.t5 else none) = some Ty.t75 := h
  by_cases e22 : t = 22
  · subst e22; have h : some Ty.t91 = some Ty.t75 := h; cases h
  rw [show Nat.beq t 22 = false by cases hb : Nat.beq t 22 with | false => rfl | true => exact absurd (Nat.eq_of_beq_eq_true hb) e22] at h
  simp only [cond_false] at h
  by_cases e25 : t = 25
  · subst e25; have h : some Ty.t104 = some Ty.t75 := h; cases h
  rw [show Nat.beq t 25 = false by cases hb : Nat.beq t 25 with | false => rfl | true => exact absurd (Nat.eq_of_beq_eq_true hb) e25] at h
  simp only [cond_false] at h
  by_cases e26 : t = 26
  · subst e26; have h : some Ty.t119 = some Ty.t75 := h; cases h
  rw [show Nat.beq t 26 = false by cases hb : Nat.beq t 26 with | false => rfl | true => exact absurd (Nat.eq_of_beq_eq_true hb) e26] at h
  simp only [cond_false] at h
  by_cases e36 : t = 36
  · subst e36; have h : some Ty.t68 = some Ty.t75 := h; cases h
  rw [show Nat.beq t 36 = false by cases hb : Nat.beq t 36 with | false => rfl | true => exact absurd (Nat.eq_of_beq_eq_true hb) e36] at h
  simp only [cond_false] at h
  by_cases e39 : t = 39
  · subst e39; have h : some Ty.t80 = some Ty.t75 := h; cases h
  rw [show Nat.beq t 39 = false by cases hb : Nat.beq t 39 with | false => rfl | true => exact absurd (Nat.eq_of_beq_eq_true hb) e39] at h
  simp only [cond_false] at h
  by_cases e40 : t = 40
  · subst e40; have h : some Ty.t128 = some Ty.t75 := h; cases h
  rw [show Nat.beq t 40 = false by cases hb : Nat.beq t 40 with | false => rfl | true => exact absurd (Nat.eq_of_beq_eq_true hb) e40] at h
  simp only [cond_false] at h
  by_cases e53 : t = 53
  · subst e53; simp
  rw [show Nat.beq t 53 = false by cases hb : Nat.beq t 53 with | false => rfl | true => exact absurd (Nat.eq_of_beq_eq_true hb) e53] at h
  simp only [cond_false] at h
  by_cases e66 : t = 66
  · subst e66; have h : some Ty.t96 = some Ty.t75 := h; cases h
  rw [show Nat.beq t 66 = false by cases hb : Nat.beq t 66 with | false => rfl | true => exact absurd (Nat.eq_of_beq_eq_true hb) e66] at h
  simp only [cond_false] at h
  by_cases e89 : t = 89
  · subst e89; have h : some Ty.t139 = some Ty.t75 := h; cases h
  rw [show Nat.beq t 89 = false by cases hb : Nat.beq t 89 with | false => rfl | true => exact absurd (Nat.eq_of_beq_eq_true hb) e89] at h
  simp only [cond_false] at h
  by_cases e108 : t = 108
  · subst e108; have h : some Ty.t133 = some Ty.t75 := h; cases h
  rw [show Nat.beq t 108 = false by cases hb : Nat.beq t 108 with | false => rfl | true => exact absurd (Nat.eq_of_beq_eq_true hb) e108] at h
  simp only [cond_false] at h
  by_cases e117 : t = 117
  · subst e117; have h : some Ty.t3 = some Ty.t75 := h; cases h
  rw [show Nat.beq t 117 = false by cases hb : Nat.beq t 117 with | false => rfl | true => exact absurd (Nat.eq_of_beq_eq_true hb) e117] at h
  simp only [cond_false] at h
  by_cases e134 : t = 134
  · subst e134; have h : some Ty.t5 = some Ty.t75 := h; cases h
  rw [show Nat.beq t 134 = false by cases hb : Nat.beq t 134 with | false => rfl | true => exact absurd (Nat.eq_of_beq_eq_true hb) e134] at h
  simp only [cond_false] at h
  cases h
theorem libOk0 : LibOk Tryz.prog kit 78 79 lib0:=⟨enters_of Tryz.func78 (by kernel_rfl) rfl,rfl,lsort_len,fun t ht w a cap l b h1 h2 h3=>by
 obtain rfl:=elemIs0 t ht
 exact libRun w a cap l b h1 h2 h3⟩
end Go.Proofs.YtbbfkodckpfjcaaGreat.M2

namespace Go.Proofs.YtbbfkodckpfjcaaGreat.M2
open Go Go.Proofs.YtbbfkodckpfjcaaGreat.PK
set_option linter.unusedVariables false
set_option linter.unusedSimpArgs false
set_option linter.unusedVariables false
set_option linter.unusedSimpArgs false
theorem kitOk : KitOk Tryz.prog kit where
 len:=by intro t x;cases t <;> rfl
 pos:=by intro t;cases t <;> decide
 cell:=by
  intro t x c hc;cases t
  ·exact noRow139_cell x c hc
  ·exact noRow91_cell x c hc
  ·exact noRow104_cell x c hc
  ·exact noRow3_cell x c hc
  ·exact noRow119_cell x c hc
  ·exact noRow80_cell x c hc
  ·exact noRow128_cell x c hc
  ·exact noRow71_cell x c hc
  ·exact noRow75_cell x c hc
  ·exact noRow133_cell x c hc
  ·exact noRow5_cell x c hc
  ·exact noRow96_cell x c hc
  exact noRow68_cell x c hc
 same:=by
  intro t x y j t2 l2 h;cases t
  ·exact same139 x y j t2 l2 h
  ·exact same91 x y j t2 l2 h
  ·exact same104 x y j t2 l2 h
  ·exact same3 x y j t2 l2 h
  ·exact same119 x y j t2 l2 h
  ·exact same80 x y j t2 l2 h
  ·exact same128 x y j t2 l2 h
  ·exact same71 x y j t2 l2 h
  ·exact same75 x y j t2 l2 h
  ·exact same133 x y j t2 l2 h
  ·exact same5 x y j t2 l2 h
  ·exact same96 x y j t2 l2 h
  exact same68 x y j t2 l2 h
 mkOk:=by
  intro t cs x h;cases t
  ·exact mkOk139 cs x h
  ·exact mkOk91 cs x h
  ·exact mkOk104 cs x h
  ·exact mkOk3 cs x h
  ·exact mkOk119 cs x h
  ·exact mkOk80 cs x h
  ·exact mkOk128 cs x h
  ·exact mkOk71 cs x h
  ·exact mkOk75 cs x h
  ·exact mkOk133 cs x h
  ·exact mkOk5 cs x h
  ·exact mkOk96 cs x h
  exact mkOk68 cs x h
 elem:=by
  intro ts te h;have h : (bif Nat.beq ts 22 then some Ty.t91 else bif Nat.beq ts 25 then some Ty.t104 else bif Nat.beq ts 26 then some Ty.t119 else bif Nat.beq ts 36 then some Ty.t68 else bif Nat.beq ts 39 then some Ty.t80 else bif Nat.beq ts 40 then some Ty.t128 else bif Nat.beq ts 53 then some Ty.t75 else bif Nat.beq ts 66 then some Ty.t96 else bif Nat.beq ts 89 then some Ty.t139 else bif Nat.beq ts 108 then some Ty.t133 else bif Nat.beq ts 117 then some Ty.t3 else bif Nat.beq ts 134 then some Ty.t5 else none) = some te:=h;cases h0 : Nat.beq ts 22 <;> rw [h0] at h <;> simp only [cond_true,cond_false] at h;rotate_left
  ·cases h;obtain rfl:=Nat.eq_of_beq_eq_true h0;exact ⟨91,Tryz.t91,_,by kernel_rfl,by kernel_rfl,by kernel_rfl,rfl,by kernel_rfl,by kernel_rfl,by decide,by kernel_rfl,fun j t2 l2 hj=>by match j with | 0=>cases hj | 1=>cases hj | 2=>cases hj;rfl | j + 3=>cases hj⟩
  cases h1 : Nat.beq ts 25 <;> rw [h1] at h <;> simp only [cond_true,cond_false] at h;rotate_left
  ·cases h;obtain rfl:=Nat.eq_of_beq_eq_true h1;exact ⟨104,Tryz.t104,_,by kernel_rfl,by kernel_rfl,by kernel_rfl,rfl,by kernel_rfl,by kernel_rfl,by decide,by kernel_rfl,fun j t2 l2 hj=>by match j with | 0=>cases hj | 1=>cases hj | j + 2=>cases hj⟩
  cases h2 : Nat.beq ts 26 <;> rw [h2] at h <;> simp only [cond_true,cond_false] at h;rotate_left
  ·cases h;obtain rfl:=Nat.eq_of_beq_eq_true h2;exact ⟨119,Tryz.t119,_,by kernel_rfl,by kernel_rfl,by kernel_rfl,rfl,by kernel_rfl,by kernel_rfl,by decide,by kernel_rfl,fun j t2 l2 hj=>by match j with | 0=>cases hj | 1=>cases hj;rfl | j + 2=>cases hj⟩
  cases h3 : Nat.beq ts 36 <;> rw [h3] at h <;> simp only [cond_true,cond_false] at h;rotate_left
  ·cases h;obtain rfl:=Nat.eq_of_beq_eq_true h3;exact ⟨68,Tryz.t68,_,by kernel_rfl,by kernel_rfl,by kernel_rfl,rfl,by kernel_rfl,by kernel_rfl,by decide,by kernel_rfl,fun j t2 l2 hj=>by match j with | 0=>cases hj | 1=>cases hj | 2=>cases hj;rfl | j + 3=>cases hj⟩
  cases h4 : Nat.beq ts 39 <;> rw [h4] at h <;> simp only [cond_true,cond_false] at h;rotate_left
  ·cases h;obtain rfl:=Nat.eq_of_beq_eq_true h4;exact ⟨80,Tryz.t80,_,by kernel_rfl,by kernel_rfl,by kernel_rfl,rfl,by kernel_rfl,by kernel_rfl,by decide,by kernel_rfl,fun j t2 l2 hj=>by match j with | 0=>cases hj | 1=>cases hj | j + 2=>cases hj⟩
  cases h5 : Nat.beq ts 40 <;> rw [h5] at h <;> simp only [cond_true,cond_false] at h;rotate_left
  ·cases h;obtain rfl:=Nat.eq_of_beq_eq_true h5;exact ⟨128,Tryz.t128,_,by kernel_rfl,by kernel_rfl,by kernel_rfl,rfl,by kernel_rfl,by kernel_rfl,by decide,by kernel_rfl,fun j t2 l2 hj=>by match j with | 0=>cases hj | 1=>cases hj;rfl | j + 2=>cases hj⟩
  cases h6 : Nat.beq ts 53 <;> rw [h6] at h <;> simp only [cond_true,cond_false] at h;rotate_left
  ·cases h;obtain rfl:=Nat.eq_of_beq_eq_true h6;exact ⟨75,Tryz.t75,_,by kernel_rfl,by kernel_rfl,by kernel_rfl,rfl,by kernel_rfl,by kernel_rfl,by decide,by kernel_rfl,fun j t2 l2 hj=>by match j with | 0=>cases hj | 1=>cases hj | 2=>cases hj | 3=>cases hj | 4=>cases hj | 5=>cases hj | 6=>cases hj | 7=>cases hj | j + 8=>cases hj⟩
  cases h7 : Nat.beq ts 66 <;> rw [h7] at h <;> simp only [cond_true,cond_false] at h;rotate_left
  ·cases h;obtain rfl:=Nat.eq_of_beq_eq_true h7;exact ⟨96,Tryz.t96,_,by kernel_rfl,by kernel_rfl,by kernel_rfl,rfl,by kernel_rfl,by kernel_rfl,by decide,by kernel_rfl,fun j t2 l2 hj=>by match j with | 0=>cases hj | 1=>cases hj | j + 2=>cases hj⟩
  cases h8 : Nat.beq ts 89 <;> rw [h8] at h <;> simp only [cond_true,cond_false] at h;rotate_left
  ·cases h;obtain rfl:=Nat.eq_of_beq_eq_true h8;exact ⟨139,Tryz.t139,_,by kernel_rfl,by kernel_rfl,by kernel_rfl,rfl,by kernel_rfl,by kernel_rfl,by decide,by kernel_rfl,fun j t2 l2 hj=>by match j with | 0=>cases hj | 1=>cases hj | j + 2=>cases hj⟩
  cases h9 : Nat.beq ts 108 <;> rw [h9] at h <;> simp only [cond_true,cond_false] at h;rotate_left
  ·cases h;obtain rfl:=Nat.eq_of_beq_eq_true h9;exact ⟨133,Tryz.t133,_,by kernel_rfl,by kernel_rfl,by kernel_rfl,rfl,by kernel_rfl,by kernel_rfl,by decide,by kernel_rfl,fun j t2 l2 hj=>by match j with | 0=>cases hj | 1=>cases hj | 2=>cases hj | j + 3=>cases hj⟩
  cases h10 : Nat.beq ts 117 <;> rw [h10] at h <;> simp only [cond_true,cond_false] at h;rotate_left
  ·cases h;obtain rfl:=Nat.eq_of_beq_eq_true h10;exact ⟨3,Tryz.t3,_,by kernel_rfl,by kernel_rfl,by kernel_rfl,rfl,by kernel_rfl,by kernel_rfl,by decide,by kernel_rfl,fun j t2 l2 hj=>by match j with | 0=>cases hj | j + 1=>cases hj⟩
  cases h11 : Nat.beq ts 134 <;> rw [h11] at h <;> simp only [cond_true,cond_false] at h;rotate_left
  ·cases h;obtain rfl:=Nat.eq_of_beq_eq_true h11;exact ⟨5,Tryz.t5,_,by kernel_rfl,by kernel_rfl,by kernel_rfl,rfl,by kernel_rfl,by kernel_rfl,by decide,by kernel_rfl,fun j t2 l2 hj=>by match j with | 0=>cases hj | j + 1=>cases hj⟩
  simp at h
 str:=by
  intro t f h;cases t
  ·cases h
  ·cases h
  ·cases h
  ·cases h
  ·cases h
  ·cases h
  ·cases h
  ·cases h
  ·cases h
  ·cases h
  ·cases h;exact ⟨rfl,id,fun x=>rfl,fun l=>strId l⟩
  ·cases h
  cases h
 byt:=by
  intro t f h;cases t
  ·cases h
  ·cases h
  ·cases h
  ·cases h
  ·cases h
  ·cases h
  ·cases h
  ·cases h
  ·cases h
  ·cases h
  ·cases h;exact ⟨rfl,rfl,bytesOf_ok⟩
  ·cases h
  cases h
 lib:=by
  intro f g L h;have h : (bif Nat.beq f 78 && Nat.beq g 79 then some lib0 else none) = some L:=h;cases h0 : (Nat.beq f 78 && Nat.beq g 79) <;> rw [h0] at h <;> simp only [cond_true,cond_false] at h;rotate_left
  ·cases h;rw [Bool.and_eq_true] at h0;obtain rfl:=Nat.eq_of_beq_eq_true h0.1;obtain rfl:=Nat.eq_of_beq_eq_true h0.2;exact libOk0
  cases h
 arr:=by
  intro ta te h;have h : (bif Nat.beq ta 145 then some Ty.t3 else none) = some te:=h;cases h0 : Nat.beq ta 145 <;> rw [h0] at h <;> simp only [cond_true,cond_false] at h;rotate_left
  ·cases h;obtain rfl:=Nat.eq_of_beq_eq_true h0
   exact ⟨3,Tryz.t3,4,by kernel_rfl,by kernel_rfl,rfl,rfl,Tryz.t145,(.agg #[.int .i64 0,.int .i64 0,.int .i64 0,.int .i64 0] : Value),by kernel_rfl,by kernel_rfl,by kernel_rfl,fun q r hq hr=>by
    have hr : r < 1:=hr
    match q,r,hq,hr with | 0,0,_,_=>show (_ : Option (AV Ty D)) = _;kernel_rfl | 1,0,_,_=>show (_ : Option (AV Ty D)) = _;kernel_rfl | 2,0,_,_=>show (_ : Option (AV Ty D)) = _;kernel_rfl | 3,0,_,_=>show (_ : Option (AV Ty D)) = _;kernel_rfl | q + 4,_,hq,_=>omega | _,r + 1,_,hr=>omega⟩
  simp at h
end Go.Proofs.YtbbfkodckpfjcaaGreat.M2

namespace Go.Proofs.YtbbfkodckpfjcaaGreat.M2
open Go Go.Proofs.YtbbfkodckpfjcaaGreat.PK
set_option linter.unusedVariables false
noncomputable abbrev w64 (n : Int) : Int:=IntKind.wrap .i64 n
noncomputable def seq (a b : ByteArray) : Bool:=a.toList == b.toList
noncomputable def maxI (x y : Int) : Int:=if y > x then y else x
noncomputable def minI (x y : Int) : Int:=if y < x then y else x
noncomputable def itemsTo (r : Nat) : Code → Option (List Item)
 | .region id ops d=>bif Nat.beq id r then some [.code (.region id ops d)] else none
 | .seq a b=>match itemsTo r a with
  | some l=>some (l ++ [.code b])
  | none=>itemsTo r b
 | .cond _ a b=>match itemsTo r a with
  | some l=>some l
  | none=>itemsTo r b
 | .block id c=>match itemsTo r c with
  | some l=>some (l ++ [.inBlock id])
  | none=>none
 | .loop c=>match itemsTo r c with
  | some l=>some (l ++ [.inLoop c])
  | none=>none
 | _=>none
noncomputable def body (fn : Func) : Code:=match fn.body with
 | some c=>c
 | none=>.skip
noncomputable def td (fn : Func) (r : Nat) : List Item:=(itemsTo r (body fn)).getD []
noncomputable abbrev E:=emptyEnv (Ty:=Ty) (D:=D)
noncomputable abbrev H0:=emptyHeap (Ty:=Ty) (D:=D)
noncomputable abbrev R:=Option (Res Ty D)
noncomputable abbrev goF (fn : Func) (ctx : Nat → Ctx Ty D) (sp : Nat → Option (Spec Ty)) (n : Nat) (en : Option (Spec Ty)):=goK Tryz.prog kit fn.ntmps ctx sp (finSp Tryz.prog kit fn n en)
noncomputable abbrev go1 (fn : Func) (ctx : Ctx Ty D) (sp : Nat → Option (Spec Ty)) (n : Nat) (en : Option (Spec Ty)) (rec : List Item → St Ty D → R):=go Tryz.prog kit ctx fn.ntmps sp (finSp Tryz.prog kit fn n en) rec 5000 true
section Steps
variable {α β γ : Type} {g : α → β}
theorem cd {p : Prop} [Decidable p] {x y : Option β} {a b : Option α} (hx : x = a.map g) (hy : y = b.map g) : (bif decide p then x else y) = (if p then a else b).map g:=by
 subst hx hy;by_cases h : p <;> simp [h]
theorem nd {p : Prop} [Decidable p] {x y : Option β} {a b : Option α} (hx : x = a.map g) (hy : y = b.map g) : (bif !decide p then x else y) = (if p then b else a).map g:=by
 subst hx hy;by_cases h : p <;> simp [h]
theorem sf {n : Int} {x : Option β} {a : Option α} (hx : x = a.map g) : (bif decide (n = n) then x else none) = a.map g:=by
 subst hx;simp
theorem cb {c : Bool} {x y : Option β} {a b : Option α} (hx : x = a.map g) (hy : y = b.map g) : (bif c then x else y) = (if c = true then a else b).map g:=by
 subst hx hy;cases c <;> rfl
theorem nb {c : Bool} {x y : Option β} {a b : Option α} (hx : x = a.map g) (hy : y = b.map g) : (bif !c then x else y) = (if c = true then b else a).map g:=by
 subst hx hy;cases c <;> rfl
theorem bn {o : Option γ} {F : γ → Option β} {G : γ → Option α} (h : ∀ r,F r = (G r).map g) : o.bind F = (o.bind G).map g:=by
 cases o with
 | none=>rfl
 | some r=>exact h r
theorem el {δ ε : Type} {F : δ → Option β} {F' : ε → Option β} {G : δ → Option α} {G' : ε → Option α} (h : ∀ r,F r = (G r).map g) (h' : ∀ r,F' r = (G' r).map g) (s : Sum δ ε) : Sum.elim F F' s = (Sum.elim G G' s).map g:=by
 cases s with
 | inl r=>exact h r
 | inr r=>exact h' r
end Steps
section Gen
variable {Ty : Type} {D : Ty → Type} {P : Program} {K : Kit Ty D}
noncomputable abbrev XG (Ty : Type) (D : Ty → Type):=List (AV Ty D) → List (Blk Ty D) → (AV Ty D → List (Option (Blk Ty D)) → List (Blk Ty D) → Option (Res Ty D)) → Option (Res Ty D)
noncomputable def XOkG (P : Program) (K : Kit Ty D) (n : Nat) (x : XG Ty D) : Prop:=∀ ins bs κ res,x ins bs κ = some res → ∃ out outs news,Contract P K n ins bs out outs news ∧ κ out outs news = some res
noncomputable def cons (n : Nat) (x : XG Ty D) (c : Ctx Ty D) : Ctx Ty D:=fun f ins bs κ=>bif Nat.beq f n then x ins bs κ else c f ins bs κ
theorem CtxOk.nil : CtxOk P K (fun _ _ _ _=>none):=fun _ _ _ _ _ h=>by cases h
theorem CtxOk.cons {n : Nat} {x : XG Ty D} {c : Ctx Ty D} (hx : XOkG P K n x) (hc : CtxOk P K c) : CtxOk P K (cons n x c):=by
 intro f ins bs κ res h;have h : (bif Nat.beq f n then x ins bs κ else c f ins bs κ) = some res:=h;cases hf : Nat.beq f n with
 | true =>
  rw [hf,cond_true] at h;have e:=Nat.eq_of_beq_eq_true hf;rw [e];exact hx _ _ _ _ h
 | false =>
  rw [hf,cond_false] at h;exact hc _ _ _ _ _ h
theorem con_okG (hk : KitOk P K) (hmix : P.follows .mixedOrders = true) {f : Nat} {fn : Func} {ctx : Nat → Ctx Ty D} (hc : ∀ k,CtxOk P K (ctx k)) {sp : Nat → Option (Spec Ty)} {en : Option (Spec Ty)} {k : Nat} {ins : List (AV Ty D)} {bs : List (Blk Ty D)} {α : Type} {o : Option α} {e : α → Res Ty D} {n : Nat}
  (ht : goK P K fn.ntmps ctx sp (finSp P K fn n en) (k + 1) [.code (body fn)] (startSt ins bs) = o.map e) {r : α} (h : o = some r)
  (h1 : P.funcs[f]? = some fn) (h2 : (fn.name == "runtime.NumGoroutine") = false) (h3 : fn.body = some (body fn)) (h4 : Nat.ble bs.length 64 = true) (h5 : Nat.ble ins.length fn.ntmps = true) (hn : n = bs.length) (h6 : (e r).2.1.length = bs.length) :
  Contract P K f ins bs (e r).1 (e r).2.1 (e r).2.2:=by
 subst hn
 have e1 : callK P K ctx sp en fn (k + 1) ins bs = goK P K fn.ntmps ctx sp (finSp P K fn bs.length en) (k + 1) [.code (body fn)] (startSt ins bs):=by
  unfold callK;rw [h3]
 exact contract_ok hk hmix hc h1 h2 h3 (Nat.le_of_ble_eq_true h4) (Nat.le_of_ble_eq_true h5) (e1.trans (ht.trans (by rw [h];rfl))) h6
end Gen
noncomputable abbrev X:=XG Ty D
noncomputable abbrev XOk (n : Nat) (x : X) : Prop:=XOkG Tryz.prog kit n x
theorem mix : Tryz.prog.follows .mixedOrders = true:=by kernel_rfl
end Go.Proofs.YtbbfkodckpfjcaaGreat.M2

namespace Go.Proofs.YtbbfkodckpfjcaaGreat.M2
open Go Go.Proofs.YtbbfkodckpfjcaaGreat.PK
set_option linter.unusedVariables false
set_option linter.unusedSimpArgs false
set_option maxHeartbeats 4000000
set_option maxRecDepth 100000
noncomputable section
def laws_szLeaf.sp : Nat → Option (Spec Ty):=fun r=>none
def laws_szLeaf.en : Option (Spec Ty):=none
def laws_szLeaf.ctx (k : Nat) : Ctx Ty D:=(fun _ _ _ _=>none)
def laws_szLeaf.f (k : Nat) (a0_0 : Int) (a0_1 : ByteArray) (a1 : Int) : Option (Int):=(if (w64 (a1 - (a0_1.size : Int))) < 0 then (some ((-1))) else (some ((w64 (a1 - (a0_1.size : Int))))))
def laws_szLeaf.e (r : Int) : Res Ty D:=(.sc (.int .i64 r),[],[])
abbrev laws_szLeaf.g (rec : List Item → St Ty D → R) (k : Nat):=go1 Tryz.f83 (laws_szLeaf.ctx k) laws_szLeaf.sp 0 laws_szLeaf.en rec
theorem laws_szLeaf.te (rec : List Item → St Ty D → R) (k : Nat) (a0_0 : Int) (a0_1 : ByteArray) (a1 : Int) : laws_szLeaf.g rec k [.code (body Tryz.f83)] (startSt [.ag [.sc (.int .i64 a0_0),.sc (.string a0_1)],.sc (.int .i64 a1)] []) =
 bif decide ((w64 (a1 - (a0_1.size : Int))) < 0) then some (laws_szLeaf.e ((-1))) else some (laws_szLeaf.e ((w64 (a1 - (a0_1.size : Int))))):=by kernel_rfl
theorem laws_szLeaf.oke (k : Nat) (a0_0 : Int) (a0_1 : ByteArray) (a1 : Int) : goF Tryz.f83 laws_szLeaf.ctx laws_szLeaf.sp 0 laws_szLeaf.en (k + 1) [.code (body Tryz.f83)] (startSt [.ag [.sc (.int .i64 a0_0),.sc (.string a0_1)],.sc (.int .i64 a1)] []) = (laws_szLeaf.f k a0_0 a0_1 a1).map laws_szLeaf.e:=by
 rw [laws_szLeaf.f];exact (laws_szLeaf.te _ k a0_0 a0_1 a1).trans (cd rfl rfl)
theorem laws_szLeaf.con (k : Nat) (a0_0 : Int) (a0_1 : ByteArray) (a1 : Int) (r) (h : laws_szLeaf.f k a0_0 a0_1 a1 = some r) : Contract Tryz.prog kit 83 [.ag [.sc (.int .i64 a0_0),.sc (.string a0_1)],.sc (.int .i64 a1)] [] (laws_szLeaf.e r).1 (laws_szLeaf.e r).2.1 (laws_szLeaf.e r).2.2 :=
 con_okG kitOk mix (fun k=>CtxOk.nil) (laws_szLeaf.oke k a0_0 a0_1 a1) h (by kernel_rfl) (by kernel_rfl) (by kernel_rfl) rfl (by kernel_rfl) rfl rfl
def laws_szLeaf.x (k : Nat) : X:=fun ins bs κ=>match ins,bs with
 | [.ag [.sc (.int .i64 a0_0),.sc (.string a0_1)],.sc (.int .i64 a1)],[]=>(laws_szLeaf.f k a0_0 a0_1 a1).bind fun r=>κ (laws_szLeaf.e r).1 (laws_szLeaf.e r).2.1 (laws_szLeaf.e r).2.2
 | _,_=>none
theorem laws_szLeaf.xok (k : Nat) : XOk 83 (laws_szLeaf.x k):=by
 intro ins bs κ res h;unfold laws_szLeaf.x at h
 split at h
 ·obtain ⟨r,hr,h⟩:=Option.bind_eq_some_iff.1 h;exact ⟨_,_,_,laws_szLeaf.con k _ _ _ r hr,h⟩
 cases h
def laws_szLeafS.sp : Nat → Option (Spec Ty):=fun r=>bif Nat.beq r 5 then some ⟨[(0,.keep),(1,.keep),(5,.keep)],[]⟩ else none
def laws_szLeafS.en : Option (Spec Ty):=none
def laws_szLeafS.s5 (x0 : List S139) (x1 : Int) (x5 : Int) : St Ty D:=⟨(Env.put (Env.put (Env.put E (some 0) (.row 0 .t139 x0)) (some 1) (.sc (.int .i64 x1))) (some 5) (.sc (.int .i64 x5))),H0,1000⟩
def laws_szLeafS.ctx (k : Nat) : Ctx Ty D:=(cons 83 (laws_szLeaf.x k) (fun _ _ _ _=>none))
def laws_szLeafS.c5 : Nat → (List S139) → Int → Int → Option (Int)
 | 0,_,_,_=>none
 | k + 1,x0,x1,x5=>(if x5 < (x0.length : Int) then (if 0 ≤ x5 then (if x5 < (x0.length : Int) then ((laws_szLeaf.f k ((rd_T139 x0 x5).f0) ((rd_T139 x0 x5).f1) x1).bind fun t1=>(if t1 < 0 then (some ((-1))) else (laws_szLeafS.c5 k x0 t1 (w64 (x5 + 1))))) else none) else none) else (some (x1)))
def laws_szLeafS.f (k : Nat) (a0 : List S139) (a1 : Int) : Option (Int):=(if (w64 (a1 - (a0.length : Int))) < 0 then (some ((-1))) else (laws_szLeafS.c5 k a0 (w64 (a1 - (a0.length : Int))) 0))
def laws_szLeafS.e (r : Int) : Res Ty D:=(.sc (.int .i64 r),[],[])
abbrev laws_szLeafS.g (rec : List Item → St Ty D → R) (k : Nat):=go1 Tryz.f60 (laws_szLeafS.ctx k) laws_szLeafS.sp 0 laws_szLeafS.en rec
theorem laws_szLeafS.t5 (rec : List Item → St Ty D → R) (k : Nat) (x0 : List S139) (x1 : Int) (x5 : Int) : laws_szLeafS.g rec k (td Tryz.f60 5) (laws_szLeafS.s5 x0 x1 x5) =
 bif decide (x5 < (x0.length : Int)) then bif decide (0 ≤ x5) then bif decide (x5 < (x0.length : Int)) then (laws_szLeaf.f k ((rd_T139 x0 x5).f0) ((rd_T139 x0 x5).f1) x1).bind fun t1=>bif decide (t1 < 0) then some (laws_szLeafS.e ((-1))) else rec (td Tryz.f60 5) (laws_szLeafS.s5 x0 t1 (w64 (x5 + 1))) else none else none else some (laws_szLeafS.e (x1)):=by kernel_rfl
theorem laws_szLeafS.te (rec : List Item → St Ty D → R) (k : Nat) (a0 : List S139) (a1 : Int) : laws_szLeafS.g rec k [.code (body Tryz.f60)] (startSt [.row 0 .t139 a0,.sc (.int .i64 a1)] []) =
 bif decide ((w64 (a1 - (a0.length : Int))) < 0) then some (laws_szLeafS.e ((-1))) else rec (td Tryz.f60 5) (laws_szLeafS.s5 a0 (w64 (a1 - (a0.length : Int))) 0):=by kernel_rfl
theorem laws_szLeafS.ok : ∀ k : Nat,(∀ (x0 : List S139) (x1 : Int) (x5 : Int),goF Tryz.f60 laws_szLeafS.ctx laws_szLeafS.sp 0 laws_szLeafS.en k (td Tryz.f60 5) (laws_szLeafS.s5 x0 x1 x5) = (laws_szLeafS.c5 k x0 x1 x5).map laws_szLeafS.e)
 | 0=>fun _ _ _=>rfl
 | k + 1=>by
  have ih:=laws_szLeafS.ok k;have i5:=ih;intro x0 x1 x5;rw [laws_szLeafS.c5];exact (laws_szLeafS.t5 _ k x0 x1 x5).trans (cd (cd (cd (bn (fun t1=>(cd rfl (i5 _ _ _)))) rfl) rfl) rfl)
theorem laws_szLeafS.oke (k : Nat) (a0 : List S139) (a1 : Int) : goF Tryz.f60 laws_szLeafS.ctx laws_szLeafS.sp 0 laws_szLeafS.en (k + 1) [.code (body Tryz.f60)] (startSt [.row 0 .t139 a0,.sc (.int .i64 a1)] []) = (laws_szLeafS.f k a0 a1).map laws_szLeafS.e:=by
 have i5:=laws_szLeafS.ok k;rw [laws_szLeafS.f];exact (laws_szLeafS.te _ k a0 a1).trans (cd rfl (i5 _ _ _))
theorem laws_szLeafS.con (k : Nat) (a0 : List S139) (a1 : Int) (r) (h : laws_szLeafS.f k a0 a1 = some r) : Contract Tryz.prog kit 60 [.row 0 .t139 a0,.sc (.int .i64 a1)] [] (laws_szLeafS.e r).1 (laws_szLeafS.e r).2.1 (laws_szLeafS.e r).2.2 :=
 con_okG kitOk mix (fun k=>(CtxOk.cons (laws_szLeaf.xok k) CtxOk.nil)) (laws_szLeafS.oke k a0 a1) h (by kernel_rfl) (by kernel_rfl) (by kernel_rfl) rfl (by kernel_rfl) rfl rfl
def laws_szLeafS.x (k : Nat) : X:=fun ins bs κ=>match ins,bs with
 | [.row 0 .t139 a0,.sc (.int .i64 a1)],[]=>(laws_szLeafS.f k a0 a1).bind fun r=>κ (laws_szLeafS.e r).1 (laws_szLeafS.e r).2.1 (laws_szLeafS.e r).2.2
 | _,_=>none
theorem laws_szLeafS.xok (k : Nat) : XOk 60 (laws_szLeafS.x k):=by
 intro ins bs κ res h;unfold laws_szLeafS.x at h
 split at h
 ·obtain ⟨r,hr,h⟩:=Option.bind_eq_some_iff.1 h;exact ⟨_,_,_,laws_szLeafS.con k _ _ r hr,h⟩
 cases h
def laws_szBlock.sp : Nat → Option (Spec Ty):=fun r=>none
def laws_szBlock.en : Option (Spec Ty):=none
def laws_szBlock.ctx (k : Nat) : Ctx Ty D:=(cons 60 (laws_szLeafS.x k) (fun _ _ _ _=>none))
def laws_szBlock.f (k : Nat) (a0_0 : Bool) (a0_1 : Int) (a0_2 : List S139) (a1 : Int) : Option (Int):=((laws_szLeafS.f k a0_2 a1).bind fun t1=>(if t1 < 0 then (some ((-1))) else (some (t1))))
def laws_szBlock.e (r : Int) : Res Ty D:=(.sc (.int .i64 r),[],[])
abbrev laws_szBlock.g (rec : List Item → St Ty D → R) (k : Nat):=go1 Tryz.f37 (laws_szBlock.ctx k) laws_szBlock.sp 0 laws_szBlock.en rec
theorem laws_szBlock.te (rec : List Item → St Ty D → R) (k : Nat) (a0_0 : Bool) (a0_1 : Int) (a0_2 : List S139) (a1 : Int) : laws_szBlock.g rec k [.code (body Tryz.f37)] (startSt [.ag [.sc (.bool a0_0),.sc (.int .i64 a0_1),.row 0 .t139 a0_2],.sc (.int .i64 a1)] []) =
 (laws_szLeafS.f k a0_2 a1).bind fun t1=>bif decide (t1 < 0) then some (laws_szBlock.e ((-1))) else some (laws_szBlock.e (t1)):=by kernel_rfl
theorem laws_szBlock.oke (k : Nat) (a0_0 : Bool) (a0_1 : Int) (a0_2 : List S139) (a1 : Int) : goF Tryz.f37 laws_szBlock.ctx laws_szBlock.sp 0 laws_szBlock.en (k + 1) [.code (body Tryz.f37)] (startSt [.ag [.sc (.bool a0_0),.sc (.int .i64 a0_1),.row 0 .t139 a0_2],.sc (.int .i64 a1)] []) = (laws_szBlock.f k a0_0 a0_1 a0_2 a1).map laws_szBlock.e:=by
 rw [laws_szBlock.f];exact (laws_szBlock.te _ k a0_0 a0_1 a0_2 a1).trans (bn (fun t1=>(cd rfl rfl)))
theorem laws_szBlock.con (k : Nat) (a0_0 : Bool) (a0_1 : Int) (a0_2 : List S139) (a1 : Int) (r) (h : laws_szBlock.f k a0_0 a0_1 a0_2 a1 = some r) : Contract Tryz.prog kit 37 [.ag [.sc (.bool a0_0),.sc (.int .i64 a0_1),.row 0 .t139 a0_2],.sc (.int .i64 a1)] [] (laws_szBlock.e r).1 (laws_szBlock.e r).2.1 (laws_szBlock.e r).2.2 :=
 con_okG kitOk mix (fun k=>(CtxOk.cons (laws_szLeafS.xok k) CtxOk.nil)) (laws_szBlock.oke k a0_0 a0_1 a0_2 a1) h (by kernel_rfl) (by kernel_rfl) (by kernel_rfl) rfl (by kernel_rfl) rfl rfl
def laws_szBlock.x (k : Nat) : X:=fun ins bs κ=>match ins,bs with
 | [.ag [.sc (.bool a0_0),.sc (.int .i64 a0_1),.row 0 .t139 a0_2],.sc (.int .i64 a1)],[]=>(laws_szBlock.f k a0_0 a0_1 a0_2 a1).bind fun r=>κ (laws_szBlock.e r).1 (laws_szBlock.e r).2.1 (laws_szBlock.e r).2.2
 | _,_=>none
theorem laws_szBlock.xok (k : Nat) : XOk 37 (laws_szBlock.x k):=by
 intro ins bs κ res h;unfold laws_szBlock.x at h
 split at h
 ·obtain ⟨r,hr,h⟩:=Option.bind_eq_some_iff.1 h;exact ⟨_,_,_,laws_szBlock.con k _ _ _ _ r hr,h⟩
 cases h
def laws_szBlockS.sp : Nat → Option (Spec Ty):=fun r=>bif Nat.beq r 5 then some ⟨[(0,.keep),(1,.keep),(5,.keep)],[]⟩ else none
def laws_szBlockS.en : Option (Spec Ty):=none
def laws_szBlockS.s5 (x0 : List S91) (x1 : Int) (x5 : Int) : St Ty D:=⟨(Env.put (Env.put (Env.put E (some 0) (.row 0 .t91 x0)) (some 1) (.sc (.int .i64 x1))) (some 5) (.sc (.int .i64 x5))),H0,1000⟩
def laws_szBlockS.ctx (k : Nat) : Ctx Ty D:=(cons 37 (laws_szBlock.x k) (fun _ _ _ _=>none))
def laws_szBlockS.c5 : Nat → (List S91) → Int → Int → Option (Int)
 | 0,_,_,_=>none
 | k + 1,x0,x1,x5=>(if x5 < (x0.length : Int) then (if 0 ≤ x5 then (if x5 < (x0.length : Int) then ((laws_szBlock.f k ((rd_T91 x0 x5).f0) ((rd_T91 x0 x5).f1) ((rd_T91 x0 x5).f2) x1).bind fun t1=>(if t1 < 0 then (some ((-1))) else (laws_szBlockS.c5 k x0 t1 (w64 (x5 + 1))))) else none) else none) else (some (x1)))
def laws_szBlockS.f (k : Nat) (a0 : List S91) (a1 : Int) : Option (Int):=(if (w64 (a1 - (a0.length : Int))) < 0 then (some ((-1))) else (laws_szBlockS.c5 k a0 (w64 (a1 - (a0.length : Int))) 0))
def laws_szBlockS.e (r : Int) : Res Ty D:=(.sc (.int .i64 r),[],[])
abbrev laws_szBlockS.g (rec : List Item → St Ty D → R) (k : Nat):=go1 Tryz.f20 (laws_szBlockS.ctx k) laws_szBlockS.sp 0 laws_szBlockS.en rec
theorem laws_szBlockS.t5 (rec : List Item → St Ty D → R) (k : Nat) (x0 : List S91) (x1 : Int) (x5 : Int) : laws_szBlockS.g rec k (td Tryz.f20 5) (laws_szBlockS.s5 x0 x1 x5) =
 bif decide (x5 < (x0.length : Int)) then bif decide (0 ≤ x5) then bif decide (x5 < (x0.length : Int)) then (laws_szBlock.f k ((rd_T91 x0 x5).f0) ((rd_T91 x0 x5).f1) ((rd_T91 x0 x5).f2) x1).bind fun t1=>bif decide (t1 < 0) then some (laws_szBlockS.e ((-1))) else rec (td Tryz.f20 5) (laws_szBlockS.s5 x0 t1 (w64 (x5 + 1))) else none else none else some (laws_szBlockS.e (x1)):=by kernel_rfl
theorem laws_szBlockS.te (rec : List Item → St Ty D → R) (k : Nat) (a0 : List S91) (a1 : Int) : laws_szBlockS.g rec k [.code (body Tryz.f20)] (startSt [.row 0 .t91 a0,.sc (.int .i64 a1)] []) =
 bif decide ((w64 (a1 - (a0.length : Int))) < 0) then some (laws_szBlockS.e ((-1))) else rec (td Tryz.f20 5) (laws_szBlockS.s5 a0 (w64 (a1 - (a0.length : Int))) 0):=by kernel_rfl
theorem laws_szBlockS.ok : ∀ k : Nat,(∀ (x0 : List S91) (x1 : Int) (x5 : Int),goF Tryz.f20 laws_szBlockS.ctx laws_szBlockS.sp 0 laws_szBlockS.en k (td Tryz.f20 5) (laws_szBlockS.s5 x0 x1 x5) = (laws_szBlockS.c5 k x0 x1 x5).map laws_szBlockS.e)
 | 0=>fun _ _ _=>rfl
 | k + 1=>by
  have ih:=laws_szBlockS.ok k;have i5:=ih;intro x0 x1 x5;rw [laws_szBlockS.c5];exact (laws_szBlockS.t5 _ k x0 x1 x5).trans (cd (cd (cd (bn (fun t1=>(cd rfl (i5 _ _ _)))) rfl) rfl) rfl)
theorem laws_szBlockS.oke (k : Nat) (a0 : List S91) (a1 : Int) : goF Tryz.f20 laws_szBlockS.ctx laws_szBlockS.sp 0 laws_szBlockS.en (k + 1) [.code (body Tryz.f20)] (startSt [.row 0 .t91 a0,.sc (.int .i64 a1)] []) = (laws_szBlockS.f k a0 a1).map laws_szBlockS.e:=by
 have i5:=laws_szBlockS.ok k;rw [laws_szBlockS.f];exact (laws_szBlockS.te _ k a0 a1).trans (cd rfl (i5 _ _ _))
theorem laws_szBlockS.con (k : Nat) (a0 : List S91) (a1 : Int) (r) (h : laws_szBlockS.f k a0 a1 = some r) : Contract Tryz.prog kit 20 [.row 0 .t91 a0,.sc (.int .i64 a1)] [] (laws_szBlockS.e r).1 (laws_szBlockS.e r).2.1 (laws_szBlockS.e r).2.2 :=
 con_okG kitOk mix (fun k=>(CtxOk.cons (laws_szBlock.xok k) CtxOk.nil)) (laws_szBlockS.oke k a0 a1) h (by kernel_rfl) (by kernel_rfl) (by kernel_rfl) rfl (by kernel_rfl) rfl rfl
def laws_szBlockS.x (k : Nat) : X:=fun ins bs κ=>match ins,bs with
 | [.row 0 .t91 a0,.sc (.int .i64 a1)],[]=>(laws_szBlockS.f k a0 a1).bind fun r=>κ (laws_szBlockS.e r).1 (laws_szBlockS.e r).2.1 (laws_szBlockS.e r).2.2
 | _,_=>none
theorem laws_szBlockS.xok (k : Nat) : XOk 20 (laws_szBlockS.x k):=by
 intro ins bs κ res h;unfold laws_szBlockS.x at h
 split at h
 ·obtain ⟨r,hr,h⟩:=Option.bind_eq_some_iff.1 h;exact ⟨_,_,_,laws_szBlockS.con k _ _ r hr,h⟩
 cases h
def laws_szFlash.sp : Nat → Option (Spec Ty):=fun r=>none
def laws_szFlash.en : Option (Spec Ty):=none
def laws_szFlash.ctx (k : Nat) : Ctx Ty D:=(cons 20 (laws_szBlockS.x k) (fun _ _ _ _=>none))
def laws_szFlash.f (k : Nat) (a0_0 : List S91) (a1 : Int) : Option (Int):=((laws_szBlockS.f k a0_0 a1).bind fun t1=>(if t1 < 0 then (some ((-1))) else (some (t1))))
def laws_szFlash.e (r : Int) : Res Ty D:=(.sc (.int .i64 r),[],[])
abbrev laws_szFlash.g (rec : List Item → St Ty D → R) (k : Nat):=go1 Tryz.f9 (laws_szFlash.ctx k) laws_szFlash.sp 0 laws_szFlash.en rec
theorem laws_szFlash.te (rec : List Item → St Ty D → R) (k : Nat) (a0_0 : List S91) (a1 : Int) : laws_szFlash.g rec k [.code (body Tryz.f9)] (startSt [.ag [.row 0 .t91 a0_0],.sc (.int .i64 a1)] []) =
 (laws_szBlockS.f k a0_0 a1).bind fun t1=>bif decide (t1 < 0) then some (laws_szFlash.e ((-1))) else some (laws_szFlash.e (t1)):=by kernel_rfl
theorem laws_szFlash.oke (k : Nat) (a0_0 : List S91) (a1 : Int) : goF Tryz.f9 laws_szFlash.ctx laws_szFlash.sp 0 laws_szFlash.en (k + 1) [.code (body Tryz.f9)] (startSt [.ag [.row 0 .t91 a0_0],.sc (.int .i64 a1)] []) = (laws_szFlash.f k a0_0 a1).map laws_szFlash.e:=by
 rw [laws_szFlash.f];exact (laws_szFlash.te _ k a0_0 a1).trans (bn (fun t1=>(cd rfl rfl)))
theorem laws_szFlash.con (k : Nat) (a0_0 : List S91) (a1 : Int) (r) (h : laws_szFlash.f k a0_0 a1 = some r) : Contract Tryz.prog kit 9 [.ag [.row 0 .t91 a0_0],.sc (.int .i64 a1)] [] (laws_szFlash.e r).1 (laws_szFlash.e r).2.1 (laws_szFlash.e r).2.2 :=
 con_okG kitOk mix (fun k=>(CtxOk.cons (laws_szBlockS.xok k) CtxOk.nil)) (laws_szFlash.oke k a0_0 a1) h (by kernel_rfl) (by kernel_rfl) (by kernel_rfl) rfl (by kernel_rfl) rfl rfl
def laws_szFlash.x (k : Nat) : X:=fun ins bs κ=>match ins,bs with
 | [.ag [.row 0 .t91 a0_0],.sc (.int .i64 a1)],[]=>(laws_szFlash.f k a0_0 a1).bind fun r=>κ (laws_szFlash.e r).1 (laws_szFlash.e r).2.1 (laws_szFlash.e r).2.2
 | _,_=>none
theorem laws_szFlash.xok (k : Nat) : XOk 9 (laws_szFlash.x k):=by
 intro ins bs κ res h;unfold laws_szFlash.x at h
 split at h
 ·obtain ⟨r,hr,h⟩:=Option.bind_eq_some_iff.1 h;exact ⟨_,_,_,laws_szFlash.con k _ _ r hr,h⟩
 cases h
def laws_szVolS.sp : Nat → Option (Spec Ty):=fun r=>none
def laws_szVolS.en : Option (Spec Ty):=none
def laws_szVolS.ctx (k : Nat) : Ctx Ty D:=(fun _ _ _ _=>none)
def laws_szVolS.f (k : Nat) (a0 : List S104) (a1 : Int) : Option (Int):=(if (w64 (a1 - (a0.length : Int))) < 0 then (some ((-1))) else (some ((w64 (a1 - (a0.length : Int))))))
def laws_szVolS.e (r : Int) : Res Ty D:=(.sc (.int .i64 r),[],[])
abbrev laws_szVolS.g (rec : List Item → St Ty D → R) (k : Nat):=go1 Tryz.f21 (laws_szVolS.ctx k) laws_szVolS.sp 0 laws_szVolS.en rec
theorem laws_szVolS.te (rec : List Item → St Ty D → R) (k : Nat) (a0 : List S104) (a1 : Int) : laws_szVolS.g rec k [.code (body Tryz.f21)] (startSt [.row 0 .t104 a0,.sc (.int .i64 a1)] []) =
 bif decide ((w64 (a1 - (a0.length : Int))) < 0) then some (laws_szVolS.e ((-1))) else some (laws_szVolS.e ((w64 (a1 - (a0.length : Int))))):=by kernel_rfl
theorem laws_szVolS.oke (k : Nat) (a0 : List S104) (a1 : Int) : goF Tryz.f21 laws_szVolS.ctx laws_szVolS.sp 0 laws_szVolS.en (k + 1) [.code (body Tryz.f21)] (startSt [.row 0 .t104 a0,.sc (.int .i64 a1)] []) = (laws_szVolS.f k a0 a1).map laws_szVolS.e:=by
 rw [laws_szVolS.f];exact (laws_szVolS.te _ k a0 a1).trans (cd rfl rfl)
theorem laws_szVolS.con (k : Nat) (a0 : List S104) (a1 : Int) (r) (h : laws_szVolS.f k a0 a1 = some r) : Contract Tryz.prog kit 21 [.row 0 .t104 a0,.sc (.int .i64 a1)] [] (laws_szVolS.e r).1 (laws_szVolS.e r).2.1 (laws_szVolS.e r).2.2 :=
 con_okG kitOk mix (fun k=>CtxOk.nil) (laws_szVolS.oke k a0 a1) h (by kernel_rfl) (by kernel_rfl) (by kernel_rfl) rfl (by kernel_rfl) rfl rfl
def laws_szVolS.x (k : Nat) : X:=fun ins bs κ=>match ins,bs with
 | [.row 0 .t104 a0,.sc (.int .i64 a1)],[]=>(laws_szVolS.f k a0 a1).bind fun r=>κ (laws_szVolS.e r).1 (laws_szVolS.e r).2.1 (laws_szVolS.e r).2.2
 | _,_=>none
theorem laws_szVolS.xok (k : Nat) : XOk 21 (laws_szVolS.x k):=by
 intro ins bs κ res h;unfold laws_szVolS.x at h
 split at h
 ·obtain ⟨r,hr,h⟩:=Option.bind_eq_some_iff.1 h;exact ⟨_,_,_,laws_szVolS.con k _ _ r hr,h⟩
 cases h
def laws_szIntS.sp : Nat → Option (Spec Ty):=fun r=>none
def laws_szIntS.en : Option (Spec Ty):=none
def laws_szIntS.ctx (k : Nat) : Ctx Ty D:=(fun _ _ _ _=>none)
def laws_szIntS.f (k : Nat) (a0 : List Int) (a1 : Int) : Option (Int):=(if (w64 (a1 - (a0.length : Int))) < 0 then (some ((-1))) else (some ((w64 (a1 - (a0.length : Int))))))
def laws_szIntS.e (r : Int) : Res Ty D:=(.sc (.int .i64 r),[],[])
abbrev laws_szIntS.g (rec : List Item → St Ty D → R) (k : Nat):=go1 Tryz.f84 (laws_szIntS.ctx k) laws_szIntS.sp 0 laws_szIntS.en rec
theorem laws_szIntS.te (rec : List Item → St Ty D → R) (k : Nat) (a0 : List Int) (a1 : Int) : laws_szIntS.g rec k [.code (body Tryz.f84)] (startSt [.row 0 .t3 a0,.sc (.int .i64 a1)] []) =
 bif decide ((w64 (a1 - (a0.length : Int))) < 0) then some (laws_szIntS.e ((-1))) else some (laws_szIntS.e ((w64 (a1 - (a0.length : Int))))):=by kernel_rfl
theorem laws_szIntS.oke (k : Nat) (a0 : List Int) (a1 : Int) : goF Tryz.f84 laws_szIntS.ctx laws_szIntS.sp 0 laws_szIntS.en (k + 1) [.code (body Tryz.f84)] (startSt [.row 0 .t3 a0,.sc (.int .i64 a1)] []) = (laws_szIntS.f k a0 a1).map laws_szIntS.e:=by
 rw [laws_szIntS.f];exact (laws_szIntS.te _ k a0 a1).trans (cd rfl rfl)
theorem laws_szIntS.con (k : Nat) (a0 : List Int) (a1 : Int) (r) (h : laws_szIntS.f k a0 a1 = some r) : Contract Tryz.prog kit 84 [.row 0 .t3 a0,.sc (.int .i64 a1)] [] (laws_szIntS.e r).1 (laws_szIntS.e r).2.1 (laws_szIntS.e r).2.2 :=
 con_okG kitOk mix (fun k=>CtxOk.nil) (laws_szIntS.oke k a0 a1) h (by kernel_rfl) (by kernel_rfl) (by kernel_rfl) rfl (by kernel_rfl) rfl rfl
def laws_szIntS.x (k : Nat) : X:=fun ins bs κ=>match ins,bs with
 | [.row 0 .t3 a0,.sc (.int .i64 a1)],[]=>(laws_szIntS.f k a0 a1).bind fun r=>κ (laws_szIntS.e r).1 (laws_szIntS.e r).2.1 (laws_szIntS.e r).2.2
 | _,_=>none
theorem laws_szIntS.xok (k : Nat) : XOk 84 (laws_szIntS.x k):=by
 intro ins bs κ res h;unfold laws_szIntS.x at h
 split at h
 ·obtain ⟨r,hr,h⟩:=Option.bind_eq_some_iff.1 h;exact ⟨_,_,_,laws_szIntS.con k _ _ r hr,h⟩
 cases h
def laws_szKnot.sp : Nat → Option (Spec Ty):=fun r=>none
def laws_szKnot.en : Option (Spec Ty):=none
def laws_szKnot.ctx (k : Nat) : Ctx Ty D:=(cons 84 (laws_szIntS.x k) (fun _ _ _ _=>none))
def laws_szKnot.f (k : Nat) (a0_0 : Bool) (a0_1 : List Int) (a1 : Int) : Option (Int):=((laws_szIntS.f k a0_1 a1).bind fun t1=>(if t1 < 0 then (some ((-1))) else (some (t1))))
def laws_szKnot.e (r : Int) : Res Ty D:=(.sc (.int .i64 r),[],[])
abbrev laws_szKnot.g (rec : List Item → St Ty D → R) (k : Nat):=go1 Tryz.f61 (laws_szKnot.ctx k) laws_szKnot.sp 0 laws_szKnot.en rec
theorem laws_szKnot.te (rec : List Item → St Ty D → R) (k : Nat) (a0_0 : Bool) (a0_1 : List Int) (a1 : Int) : laws_szKnot.g rec k [.code (body Tryz.f61)] (startSt [.ag [.sc (.bool a0_0),.row 0 .t3 a0_1],.sc (.int .i64 a1)] []) =
 (laws_szIntS.f k a0_1 a1).bind fun t1=>bif decide (t1 < 0) then some (laws_szKnot.e ((-1))) else some (laws_szKnot.e (t1)):=by kernel_rfl
theorem laws_szKnot.oke (k : Nat) (a0_0 : Bool) (a0_1 : List Int) (a1 : Int) : goF Tryz.f61 laws_szKnot.ctx laws_szKnot.sp 0 laws_szKnot.en (k + 1) [.code (body Tryz.f61)] (startSt [.ag [.sc (.bool a0_0),.row 0 .t3 a0_1],.sc (.int .i64 a1)] []) = (laws_szKnot.f k a0_0 a0_1 a1).map laws_szKnot.e:=by
 rw [laws_szKnot.f];exact (laws_szKnot.te _ k a0_0 a0_1 a1).trans (bn (fun t1=>(cd rfl rfl)))
theorem laws_szKnot.con (k : Nat) (a0_0 : Bool) (a0_1 : List Int) (a1 : Int) (r) (h : laws_szKnot.f k a0_0 a0_1 a1 = some r) : Contract Tryz.prog kit 61 [.ag [.sc (.bool a0_0),.row 0 .t3 a0_1],.sc (.int .i64 a1)] [] (laws_szKnot.e r).1 (laws_szKnot.e r).2.1 (laws_szKnot.e r).2.2 :=
 con_okG kitOk mix (fun k=>(CtxOk.cons (laws_szIntS.xok k) CtxOk.nil)) (laws_szKnot.oke k a0_0 a0_1 a1) h (by kernel_rfl) (by kernel_rfl) (by kernel_rfl) rfl (by kernel_rfl) rfl rfl
def laws_szKnot.x (k : Nat) : X:=fun ins bs κ=>match ins,bs with
 | [.ag [.sc (.bool a0_0),.row 0 .t3 a0_1],.sc (.int .i64 a1)],[]=>(laws_szKnot.f k a0_0 a0_1 a1).bind fun r=>κ (laws_szKnot.e r).1 (laws_szKnot.e r).2.1 (laws_szKnot.e r).2.2
 | _,_=>none
theorem laws_szKnot.xok (k : Nat) : XOk 61 (laws_szKnot.x k):=by
 intro ins bs κ res h;unfold laws_szKnot.x at h
 split at h
 ·obtain ⟨r,hr,h⟩:=Option.bind_eq_some_iff.1 h;exact ⟨_,_,_,laws_szKnot.con k _ _ _ r hr,h⟩
 cases h
def laws_szKnotS.sp : Nat → Option (Spec Ty):=fun r=>bif Nat.beq r 5 then some ⟨[(0,.keep),(1,.keep),(5,.keep)],[]⟩ else none
def laws_szKnotS.en : Option (Spec Ty):=none
def laws_szKnotS.s5 (x0 : List S119) (x1 : Int) (x5 : Int) : St Ty D:=⟨(Env.put (Env.put (Env.put E (some 0) (.row 0 .t119 x0)) (some 1) (.sc (.int .i64 x1))) (some 5) (.sc (.int .i64 x5))),H0,1000⟩
def laws_szKnotS.ctx (k : Nat) : Ctx Ty D:=(cons 61 (laws_szKnot.x k) (fun _ _ _ _=>none))
def laws_szKnotS.c5 : Nat → (List S119) → Int → Int → Option (Int)
 | 0,_,_,_=>none
 | k + 1,x0,x1,x5=>(if x5 < (x0.length : Int) then (if 0 ≤ x5 then (if x5 < (x0.length : Int) then ((laws_szKnot.f k ((rd_T119 x0 x5).f0) ((rd_T119 x0 x5).f1) x1).bind fun t1=>(if t1 < 0 then (some ((-1))) else (laws_szKnotS.c5 k x0 t1 (w64 (x5 + 1))))) else none) else none) else (some (x1)))
def laws_szKnotS.f (k : Nat) (a0 : List S119) (a1 : Int) : Option (Int):=(if (w64 (a1 - (a0.length : Int))) < 0 then (some ((-1))) else (laws_szKnotS.c5 k a0 (w64 (a1 - (a0.length : Int))) 0))
def laws_szKnotS.e (r : Int) : Res Ty D:=(.sc (.int .i64 r),[],[])
abbrev laws_szKnotS.g (rec : List Item → St Ty D → R) (k : Nat):=go1 Tryz.f38 (laws_szKnotS.ctx k) laws_szKnotS.sp 0 laws_szKnotS.en rec
theorem laws_szKnotS.t5 (rec : List Item → St Ty D → R) (k : Nat) (x0 : List S119) (x1 : Int) (x5 : Int) : laws_szKnotS.g rec k (td Tryz.f38 5) (laws_szKnotS.s5 x0 x1 x5) =
 bif decide (x5 < (x0.length : Int)) then bif decide (0 ≤ x5) then bif decide (x5 < (x0.length : Int)) then (laws_szKnot.f k ((rd_T119 x0 x5).f0) ((rd_T119 x0 x5).f1) x1).bind fun t1=>bif decide (t1 < 0) then some (laws_szKnotS.e ((-1))) else rec (td Tryz.f38 5) (laws_szKnotS.s5 x0 t1 (w64 (x5 + 1))) else none else none else some (laws_szKnotS.e (x1)):=by kernel_rfl
theorem laws_szKnotS.te (rec : List Item → St Ty D → R) (k : Nat) (a0 : List S119) (a1 : Int) : laws_szKnotS.g rec k [.code (body Tryz.f38)] (startSt [.row 0 .t119 a0,.sc (.int .i64 a1)] []) =
 bif decide ((w64 (a1 - (a0.length : Int))) < 0) then some (laws_szKnotS.e ((-1))) else rec (td Tryz.f38 5) (laws_szKnotS.s5 a0 (w64 (a1 - (a0.length : Int))) 0):=by kernel_rfl
theorem laws_szKnotS.ok : ∀ k : Nat,(∀ (x0 : List S119) (x1 : Int) (x5 : Int),goF Tryz.f38 laws_szKnotS.ctx laws_szKnotS.sp 0 laws_szKnotS.en k (td Tryz.f38 5) (laws_szKnotS.s5 x0 x1 x5) = (laws_szKnotS.c5 k x0 x1 x5).map laws_szKnotS.e)
 | 0=>fun _ _ _=>rfl
 | k + 1=>by
  have ih:=laws_szKnotS.ok k;have i5:=ih;intro x0 x1 x5;rw [laws_szKnotS.c5];exact (laws_szKnotS.t5 _ k x0 x1 x5).trans (cd (cd (cd (bn (fun t1=>(cd rfl (i5 _ _ _)))) rfl) rfl) rfl)
theorem laws_szKnotS.oke (k : Nat) (a0 : List S119) (a1 : Int) : goF Tryz.f38 laws_szKnotS.ctx laws_szKnotS.sp 0 laws_szKnotS.en (k + 1) [.code (body Tryz.f38)] (startSt [.row 0 .t119 a0,.sc (.int .i64 a1)] []) = (laws_szKnotS.f k a0 a1).map laws_szKnotS.e:=by
 have i5:=laws_szKnotS.ok k;rw [laws_szKnotS.f];exact (laws_szKnotS.te _ k a0 a1).trans (cd rfl (i5 _ _ _))
theorem laws_szKnotS.con (k : Nat) (a0 : List S119) (a1 : Int) (r) (h : laws_szKnotS.f k a0 a1 = some r) : Contract Tryz.prog kit 38 [.row 0 .t119 a0,.sc (.int .i64 a1)] [] (laws_szKnotS.e r).1 (laws_szKnotS.e r).2.1 (laws_szKnotS.e r).2.2 :=
 con_okG kitOk mix (fun k=>(CtxOk.cons (laws_szKnot.xok k) CtxOk.nil)) (laws_szKnotS.oke k a0 a1) h (by kernel_rfl) (by kernel_rfl) (by kernel_rfl) rfl (by kernel_rfl) rfl rfl
def laws_szKnotS.x (k : Nat) : X:=fun ins bs κ=>match ins,bs with
 | [.row 0 .t119 a0,.sc (.int .i64 a1)],[]=>(laws_szKnotS.f k a0 a1).bind fun r=>κ (laws_szKnotS.e r).1 (laws_szKnotS.e r).2.1 (laws_szKnotS.e r).2.2
 | _,_=>none
theorem laws_szKnotS.xok (k : Nat) : XOk 38 (laws_szKnotS.x k):=by
 intro ins bs κ res h;unfold laws_szKnotS.x at h
 split at h
 ·obtain ⟨r,hr,h⟩:=Option.bind_eq_some_iff.1 h;exact ⟨_,_,_,laws_szKnotS.con k _ _ r hr,h⟩
 cases h
def laws_szArena.sp : Nat → Option (Spec Ty):=fun r=>none
def laws_szArena.en : Option (Spec Ty):=none
def laws_szArena.ctx (k : Nat) : Ctx Ty D:=(cons 38 (laws_szKnotS.x k) (fun _ _ _ _=>none))
def laws_szArena.f (k : Nat) (a0_0 : List S119) (a1 : Int) : Option (Int):=((laws_szKnotS.f k a0_0 a1).bind fun t1=>(if t1 < 0 then (some ((-1))) else (some (t1))))
def laws_szArena.e (r : Int) : Res Ty D:=(.sc (.int .i64 r),[],[])
abbrev laws_szArena.g (rec : List Item → St Ty D → R) (k : Nat):=go1 Tryz.f22 (laws_szArena.ctx k) laws_szArena.sp 0 laws_szArena.en rec
theorem laws_szArena.te (rec : List Item → St Ty D → R) (k : Nat) (a0_0 : List S119) (a1 : Int) : laws_szArena.g rec k [.code (body Tryz.f22)] (startSt [.ag [.row 0 .t119 a0_0],.sc (.int .i64 a1)] []) =
 (laws_szKnotS.f k a0_0 a1).bind fun t1=>bif decide (t1 < 0) then some (laws_szArena.e ((-1))) else some (laws_szArena.e (t1)):=by kernel_rfl
theorem laws_szArena.oke (k : Nat) (a0_0 : List S119) (a1 : Int) : goF Tryz.f22 laws_szArena.ctx laws_szArena.sp 0 laws_szArena.en (k + 1) [.code (body Tryz.f22)] (startSt [.ag [.row 0 .t119 a0_0],.sc (.int .i64 a1)] []) = (laws_szArena.f k a0_0 a1).map laws_szArena.e:=by
 rw [laws_szArena.f];exact (laws_szArena.te _ k a0_0 a1).trans (bn (fun t1=>(cd rfl rfl)))
theorem laws_szArena.con (k : Nat) (a0_0 : List S119) (a1 : Int) (r) (h : laws_szArena.f k a0_0 a1 = some r) : Contract Tryz.prog kit 22 [.ag [.row 0 .t119 a0_0],.sc (.int .i64 a1)] [] (laws_szArena.e r).1 (laws_szArena.e r).2.1 (laws_szArena.e r).2.2 :=
 con_okG kitOk mix (fun k=>(CtxOk.cons (laws_szKnotS.xok k) CtxOk.nil)) (laws_szArena.oke k a0_0 a1) h (by kernel_rfl) (by kernel_rfl) (by kernel_rfl) rfl (by kernel_rfl) rfl rfl
def laws_szArena.x (k : Nat) : X:=fun ins bs κ=>match ins,bs with
 | [.ag [.row 0 .t119 a0_0],.sc (.int .i64 a1)],[]=>(laws_szArena.f k a0_0 a1).bind fun r=>κ (laws_szArena.e r).1 (laws_szArena.e r).2.1 (laws_szArena.e r).2.2
 | _,_=>none
theorem laws_szArena.xok (k : Nat) : XOk 22 (laws_szArena.x k):=by
 intro ins bs κ res h;unfold laws_szArena.x at h
 split at h
 ·obtain ⟨r,hr,h⟩:=Option.bind_eq_some_iff.1 h;exact ⟨_,_,_,laws_szArena.con k _ _ r hr,h⟩
 cases h
def laws_szStore.sp : Nat → Option (Spec Ty):=fun r=>none
def laws_szStore.en : Option (Spec Ty):=none
def laws_szStore.ctx (k : Nat) : Ctx Ty D:=(cons 21 (laws_szVolS.x k) (cons 22 (laws_szArena.x k) (fun _ _ _ _=>none)))
def laws_szStore.f (k : Nat) (a0_0 : List S104) (a0_1 : List S119) (a0_2 : Int) (a1 : Int) : Option (Int):=((laws_szVolS.f k a0_0 a1).bind fun t1=>(if t1 < 0 then (some ((-1))) else ((laws_szArena.f k a0_1 t1).bind fun t2=>(if t2 < 0 then (some ((-1))) else (some (t2))))))
def laws_szStore.e (r : Int) : Res Ty D:=(.sc (.int .i64 r),[],[])
abbrev laws_szStore.g (rec : List Item → St Ty D → R) (k : Nat):=go1 Tryz.f10 (laws_szStore.ctx k) laws_szStore.sp 0 laws_szStore.en rec
theorem laws_szStore.te (rec : List Item → St Ty D → R) (k : Nat) (a0_0 : List S104) (a0_1 : List S119) (a0_2 : Int) (a1 : Int) : laws_szStore.g rec k [.code (body Tryz.f10)] (startSt [.ag [.row 0 .t104 a0_0,.row 0 .t119 a0_1,.sc (.int .i64 a0_2)],.sc (.int .i64 a1)] []) =
 (laws_szVolS.f k a0_0 a1).bind fun t1=>bif decide (t1 < 0) then some (laws_szStore.e ((-1))) else (laws_szArena.f k a0_1 t1).bind fun t2=>bif decide (t2 < 0) then some (laws_szStore.e ((-1))) else some (laws_szStore.e (t2)):=by kernel_rfl
theorem laws_szStore.oke (k : Nat) (a0_0 : List S104) (a0_1 : List S119) (a0_2 : Int) (a1 : Int) : goF Tryz.f10 laws_szStore.ctx laws_szStore.sp 0 laws_szStore.en (k + 1) [.code (body Tryz.f10)] (startSt [.ag [.row 0 .t104 a0_0,.row 0 .t119 a0_1,.sc (.int .i64 a0_2)],.sc (.int .i64 a1)] []) = (laws_szStore.f k a0_0 a0_1 a0_2 a1).map laws_szStore.e:=by
 rw [laws_szStore.f];exact (laws_szStore.te _ k a0_0 a0_1 a0_2 a1).trans (bn (fun t1=>(cd rfl (bn (fun t2=>(cd rfl rfl))))))
theorem laws_szStore.con (k : Nat) (a0_0 : List S104) (a0_1 : List S119) (a0_2 : Int) (a1 : Int) (r) (h : laws_szStore.f k a0_0 a0_1 a0_2 a1 = some r) : Contract Tryz.prog kit 10 [.ag [.row 0 .t104 a0_0,.row 0 .t119 a0_1,.sc (.int .i64 a0_2)],.sc (.int .i64 a1)] [] (laws_szStore.e r).1 (laws_szStore.e r).2.1 (laws_szStore.e r).2.2 :=
 con_okG kitOk mix (fun k=>(CtxOk.cons (laws_szVolS.xok k) (CtxOk.cons (laws_szArena.xok k) CtxOk.nil))) (laws_szStore.oke k a0_0 a0_1 a0_2 a1) h (by kernel_rfl) (by kernel_rfl) (by kernel_rfl) rfl (by kernel_rfl) rfl rfl
def laws_szStore.x (k : Nat) : X:=fun ins bs κ=>match ins,bs with
 | [.ag [.row 0 .t104 a0_0,.row 0 .t119 a0_1,.sc (.int .i64 a0_2)],.sc (.int .i64 a1)],[]=>(laws_szStore.f k a0_0 a0_1 a0_2 a1).bind fun r=>κ (laws_szStore.e r).1 (laws_szStore.e r).2.1 (laws_szStore.e r).2.2
 | _,_=>none
theorem laws_szStore.xok (k : Nat) : XOk 10 (laws_szStore.x k):=by
 intro ins bs κ res h;unfold laws_szStore.x at h
 split at h
 ·obtain ⟨r,hr,h⟩:=Option.bind_eq_some_iff.1 h;exact ⟨_,_,_,laws_szStore.con k _ _ _ _ r hr,h⟩
 cases h
def laws_szDevice.sp : Nat → Option (Spec Ty):=fun r=>none
def laws_szDevice.en : Option (Spec Ty):=none
def laws_szDevice.ctx (k : Nat) : Ctx Ty D:=(cons 9 (laws_szFlash.x k) (cons 10 (laws_szStore.x k) (fun _ _ _ _=>none)))
def laws_szDevice.f (k : Nat) (a0_0 : List S91) (a0_1 : List S104) (a0_2 : List S119) (a0_3 : Int) (a0_4 : Int) (a0_5 : Int) (a0_6 : Int) (a1 : Int) : Option (Int):=((laws_szFlash.f k a0_0 a1).bind fun t1=>(if t1 < 0 then (some ((-1))) else ((laws_szStore.f k a0_1 a0_2 a0_3 t1).bind fun t2=>(if t2 < 0 then (some ((-1))) else (some (t2))))))
def laws_szDevice.e (r : Int) : Res Ty D:=(.sc (.int .i64 r),[],[])
abbrev laws_szDevice.g (rec : List Item → St Ty D → R) (k : Nat):=go1 Tryz.f4 (laws_szDevice.ctx k) laws_szDevice.sp 0 laws_szDevice.en rec
theorem laws_szDevice.te (rec : List Item → St Ty D → R) (k : Nat) (a0_0 : List S91) (a0_1 : List S104) (a0_2 : List S119) (a0_3 : Int) (a0_4 : Int) (a0_5 : Int) (a0_6 : Int) (a1 : Int) : laws_szDevice.g rec k [.code (body Tryz.f4)] (startSt [.ag [.row 0 .t91 a0_0,.row 0 .t104 a0_1,.row 0 .t119 a0_2,.sc (.int .i64 a0_3),.sc (.int .i64 a0_4),.sc (.int .i64 a0_5),.sc (.int .i64 a0_6)],.sc (.int .i64 a1)] []) =
 (laws_szFlash.f k a0_0 a1).bind fun t1=>bif decide (t1 < 0) then some (laws_szDevice.e ((-1))) else (laws_szStore.f k a0_1 a0_2 a0_3 t1).bind fun t2=>bif decide (t2 < 0) then some (laws_szDevice.e ((-1))) else some (laws_szDevice.e (t2)):=by kernel_rfl
theorem laws_szDevice.oke (k : Nat) (a0_0 : List S91) (a0_1 : List S104) (a0_2 : List S119) (a0_3 : Int) (a0_4 : Int) (a0_5 : Int) (a0_6 : Int) (a1 : Int) : goF Tryz.f4 laws_szDevice.ctx laws_szDevice.sp 0 laws_szDevice.en (k + 1) [.code (body Tryz.f4)] (startSt [.ag [.row 0 .t91 a0_0,.row 0 .t104 a0_1,.row 0 .t119 a0_2,.sc (.int .i64 a0_3),.sc (.int .i64 a0_4),.sc (.int .i64 a0_5),.sc (.int .i64 a0_6)],.sc (.int .i64 a1)] []) = (laws_szDevice.f k a0_0 a0_1 a0_2 a0_3 a0_4 a0_5 a0_6 a1).map laws_szDevice.e:=by
 rw [laws_szDevice.f];exact (laws_szDevice.te _ k a0_0 a0_1 a0_2 a0_3 a0_4 a0_5 a0_6 a1).trans (bn (fun t1=>(cd rfl (bn (fun t2=>(cd rfl rfl))))))
theorem laws_szDevice.con (k : Nat) (a0_0 : List S91) (a0_1 : List S104) (a0_2 : List S119) (a0_3 : Int) (a0_4 : Int) (a0_5 : Int) (a0_6 : Int) (a1 : Int) (r) (h : laws_szDevice.f k a0_0 a0_1 a0_2 a0_3 a0_4 a0_5 a0_6 a1 = some r) : Contract Tryz.prog kit 4 [.ag [.row 0 .t91 a0_0,.row 0 .t104 a0_1,.row 0 .t119 a0_2,.sc (.int .i64 a0_3),.sc (.int .i64 a0_4),.sc (.int .i64 a0_5),.sc (.int .i64 a0_6)],.sc (.int .i64 a1)] [] (laws_szDevice.e r).1 (laws_szDevice.e r).2.1 (laws_szDevice.e r).2.2 :=
 con_okG kitOk mix (fun k=>(CtxOk.cons (laws_szFlash.xok k) (CtxOk.cons (laws_szStore.xok k) CtxOk.nil))) (laws_szDevice.oke k a0_0 a0_1 a0_2 a0_3 a0_4 a0_5 a0_6 a1) h (by kernel_rfl) (by kernel_rfl) (by kernel_rfl) rfl (by kernel_rfl) rfl rfl
def laws_szDevice.x (k : Nat) : X:=fun ins bs κ=>match ins,bs with
 | [.ag [.row 0 .t91 a0_0,.row 0 .t104 a0_1,.row 0 .t119 a0_2,.sc (.int .i64 a0_3),.sc (.int .i64 a0_4),.sc (.int .i64 a0_5),.sc (.int .i64 a0_6)],.sc (.int .i64 a1)],[]=>(laws_szDevice.f k a0_0 a0_1 a0_2 a0_3 a0_4 a0_5 a0_6 a1).bind fun r=>κ (laws_szDevice.e r).1 (laws_szDevice.e r).2.1 (laws_szDevice.e r).2.2
 | _,_=>none
theorem laws_szDevice.xok (k : Nat) : XOk 4 (laws_szDevice.x k):=by
 intro ins bs κ res h;unfold laws_szDevice.x at h
 split at h
 ·obtain ⟨r,hr,h⟩:=Option.bind_eq_some_iff.1 h;exact ⟨_,_,_,laws_szDevice.con k _ _ _ _ _ _ _ _ r hr,h⟩
 cases h
def spec_l12At.sp : Nat → Option (Spec Ty):=fun r=>bif Nat.beq r 2 then some ⟨[(1,.keep),(2,.box [.keep,.keep,.keep]),(5,.keep)],[]⟩ else none
def spec_l12At.en : Option (Spec Ty):=none
def spec_l12At.s2 (x1 : Int) (x5 : Int) (h64_0 : List S80) (h64_1 : List S128) (h64_2 : Int) : St Ty D:=⟨(Env.put (Env.put (Env.put E (some 1) (.sc (.int .i64 x1))) (some 2) (.pt 64 0 0)) (some 5) (.sc (.int .i64 x5))),Heap.put H0 [(64,some (.box [.row 0 .t80 h64_0,.row 0 .t128 h64_1,.sc (.int .i64 h64_2)]))],1000⟩
def spec_l12At.ctx (k : Nat) : Ctx Ty D:=(fun _ _ _ _=>none)
def spec_l12At.c2 : Nat → Int → Int → (List S80) → (List S128) → Int → Option (Int)
 | 0,_,_,_,_,_=>none
 | k + 1,x1,x5,h64_0,h64_1,h64_2=>(if x5 < (h64_0.length : Int) then (if 0 ≤ x5 then (if x5 < (h64_0.length : Int) then (if ((rd_T80 h64_0 x5).f0) = x1 then (some (x5)) else (spec_l12At.c2 k x1 (w64 (x5 + 1)) h64_0 h64_1 h64_2)) else none) else none) else (some ((-1))))
def spec_l12At.f (k : Nat) (a0_0 : List S80) (a0_1 : List S128) (a0_2 : Int) (a1 : Int) : Option (Int):=(spec_l12At.c2 k a1 0 a0_0 a0_1 a0_2)
def spec_l12At.e (r : Int) : Res Ty D:=(.sc (.int .i64 r),[],[])
abbrev spec_l12At.g (rec : List Item → St Ty D → R) (k : Nat):=go1 Tryz.f23 (spec_l12At.ctx k) spec_l12At.sp 0 spec_l12At.en rec
theorem spec_l12At.t2 (rec : List Item → St Ty D → R) (k : Nat) (x1 : Int) (x5 : Int) (h64_0 : List S80) (h64_1 : List S128) (h64_2 : Int) : spec_l12At.g rec k (td Tryz.f23 2) (spec_l12At.s2 x1 x5 h64_0 h64_1 h64_2) =
 bif decide (x5 < (h64_0.length : Int)) then bif decide (0 ≤ x5) then bif decide (x5 < (h64_0.length : Int)) then bif decide (((rd_T80 h64_0 x5).f0) = x1) then some (spec_l12At.e (x5)) else rec (td Tryz.f23 2) (spec_l12At.s2 x1 (w64 (x5 + 1)) h64_0 h64_1 h64_2) else none else none else some (spec_l12At.e ((-1))):=by kernel_rfl
theorem spec_l12At.te (rec : List Item → St Ty D → R) (k : Nat) (a0_0 : List S80) (a0_1 : List S128) (a0_2 : Int) (a1 : Int) : spec_l12At.g rec k [.code (body Tryz.f23)] (startSt [.ag [.row 0 .t80 a0_0,.row 0 .t128 a0_1,.sc (.int .i64 a0_2)],.sc (.int .i64 a1)] []) =
 rec (td Tryz.f23 2) (spec_l12At.s2 a1 0 a0_0 a0_1 a0_2):=by kernel_rfl
theorem spec_l12At.ok : ∀ k : Nat,(∀ (x1 : Int) (x5 : Int) (h64_0 : List S80) (h64_1 : List S128) (h64_2 : Int),goF Tryz.f23 spec_l12At.ctx spec_l12At.sp 0 spec_l12At.en k (td Tryz.f23 2) (spec_l12At.s2 x1 x5 h64_0 h64_1 h64_2) = (spec_l12At.c2 k x1 x5 h64_0 h64_1 h64_2).map spec_l12At.e)
 | 0=>fun _ _ _ _ _=>rfl
 | k + 1=>by
  have ih:=spec_l12At.ok k;have i2:=ih;intro x1 x5 h64_0 h64_1 h64_2;rw [spec_l12At.c2];exact (spec_l12At.t2 _ k x1 x5 h64_0 h64_1 h64_2).trans (cd (cd (cd (cd rfl (i2 _ _ _ _ _)) rfl) rfl) rfl)
theorem spec_l12At.oke (k : Nat) (a0_0 : List S80) (a0_1 : List S128) (a0_2 : Int) (a1 : Int) : goF Tryz.f23 spec_l12At.ctx spec_l12At.sp 0 spec_l12At.en (k + 1) [.code (body Tryz.f23)] (startSt [.ag [.row 0 .t80 a0_0,.row 0 .t128 a0_1,.sc (.int .i64 a0_2)],.sc (.int .i64 a1)] []) = (spec_l12At.f k a0_0 a0_1 a0_2 a1).map spec_l12At.e:=by
 have i2:=spec_l12At.ok k;rw [spec_l12At.f];exact (spec_l12At.te _ k a0_0 a0_1 a0_2 a1).trans (i2 _ _ _ _ _)
theorem spec_l12At.con (k : Nat) (a0_0 : List S80) (a0_1 : List S128) (a0_2 : Int) (a1 : Int) (r) (h : spec_l12At.f k a0_0 a0_1 a0_2 a1 = some r) : Contract Tryz.prog kit 23 [.ag [.row 0 .t80 a0_0,.row 0 .t128 a0_1,.sc (.int .i64 a0_2)],.sc (.int .i64 a1)] [] (spec_l12At.e r).1 (spec_l12At.e r).2.1 (spec_l12At.e r).2.2 :=
 con_okG kitOk mix (fun k=>CtxOk.nil) (spec_l12At.oke k a0_0 a0_1 a0_2 a1) h (by kernel_rfl) (by kernel_rfl) (by kernel_rfl) rfl (by kernel_rfl) rfl rfl
def spec_l12At.x (k : Nat) : X:=fun ins bs κ=>match ins,bs with
 | [.ag [.row 0 .t80 a0_0,.row 0 .t128 a0_1,.sc (.int .i64 a0_2)],.sc (.int .i64 a1)],[]=>(spec_l12At.f k a0_0 a0_1 a0_2 a1).bind fun r=>κ (spec_l12At.e r).1 (spec_l12At.e r).2.1 (spec_l12At.e r).2.2
 | _,_=>none
theorem spec_l12At.xok (k : Nat) : XOk 23 (spec_l12At.x k):=by
 intro ins bs κ res h;unfold spec_l12At.x at h
 split at h
 ·obtain ⟨r,hr,h⟩:=Option.bind_eq_some_iff.1 h;exact ⟨_,_,_,spec_l12At.con k _ _ _ _ r hr,h⟩
 cases h
end
end Go.Proofs.YtbbfkodckpfjcaaGreat.M2

namespace Go.Proofs.YtbbfkodckpfjcaaGreat.M2
open Go Go.Proofs.YtbbfkodckpfjcaaGreat.PK
set_option linter.unusedVariables false
set_option linter.unusedSimpArgs false
set_option maxHeartbeats 4000000
set_option maxRecDepth 100000
noncomputable section
def spec_l01In.sp : Nat → Option (Spec Ty):=fun r=>none
def spec_l01In.en : Option (Spec Ty):=none
def spec_l01In.ctx (k : Nat) : Ctx Ty D:=(fun _ _ _ _=>none)
def spec_l01In.f (k : Nat) (a0 : Int) (a1 : Int) (a2 : Int) : Option (Bool):=(if a0 ≥ a1 then (some ((decide (a0 ≤ a2)))) else (some (false)))
def spec_l01In.e (r : Bool) : Res Ty D:=(.sc (.bool r),[],[])
abbrev spec_l01In.g (rec : List Item → St Ty D → R) (k : Nat):=go1 Tryz.f42 (spec_l01In.ctx k) spec_l01In.sp 0 spec_l01In.en rec
theorem spec_l01In.te (rec : List Item → St Ty D → R) (k : Nat) (a0 : Int) (a1 : Int) (a2 : Int) : spec_l01In.g rec k [.code (body Tryz.f42)] (startSt [.sc (.int .i64 a0),.sc (.int .i64 a1),.sc (.int .i64 a2)] []) =
 bif decide (a0 ≥ a1) then some (spec_l01In.e ((decide (a0 ≤ a2)))) else some (spec_l01In.e (false)):=by kernel_rfl
theorem spec_l01In.oke (k : Nat) (a0 : Int) (a1 : Int) (a2 : Int) : goF Tryz.f42 spec_l01In.ctx spec_l01In.sp 0 spec_l01In.en (k + 1) [.code (body Tryz.f42)] (startSt [.sc (.int .i64 a0),.sc (.int .i64 a1),.sc (.int .i64 a2)] []) = (spec_l01In.f k a0 a1 a2).map spec_l01In.e:=by
 rw [spec_l01In.f];exact (spec_l01In.te _ k a0 a1 a2).trans (cd rfl rfl)
theorem spec_l01In.con (k : Nat) (a0 : Int) (a1 : Int) (a2 : Int) (r) (h : spec_l01In.f k a0 a1 a2 = some r) : Contract Tryz.prog kit 42 [.sc (.int .i64 a0),.sc (.int .i64 a1),.sc (.int .i64 a2)] [] (spec_l01In.e r).1 (spec_l01In.e r).2.1 (spec_l01In.e r).2.2 :=
 con_okG kitOk mix (fun k=>CtxOk.nil) (spec_l01In.oke k a0 a1 a2) h (by kernel_rfl) (by kernel_rfl) (by kernel_rfl) rfl (by kernel_rfl) rfl rfl
def spec_l01In.x (k : Nat) : X:=fun ins bs κ=>match ins,bs with
 | [.sc (.int .i64 a0),.sc (.int .i64 a1),.sc (.int .i64 a2)],[]=>(spec_l01In.f k a0 a1 a2).bind fun r=>κ (spec_l01In.e r).1 (spec_l01In.e r).2.1 (spec_l01In.e r).2.2
 | _,_=>none
theorem spec_l01In.xok (k : Nat) : XOk 42 (spec_l01In.x k):=by
 intro ins bs κ res h;unfold spec_l01In.x at h
 split at h
 ·obtain ⟨r,hr,h⟩:=Option.bind_eq_some_iff.1 h;exact ⟨_,_,_,spec_l01In.con k _ _ _ r hr,h⟩
 cases h
def spec_ArenaOk.sp : Nat → Option (Spec Ty):=fun r=>bif Nat.beq r 2 then some ⟨[(1,.box [.keep]),(3,.keep)],[]⟩ else bif Nat.beq r 8 then some ⟨[(1,.box [.keep]),(3,.keep),(4,.box [.keep,.keep]),(5,.keep)],[]⟩ else none
def spec_ArenaOk.en : Option (Spec Ty):=none
def spec_ArenaOk.s2 (x3 : Int) (h64_0 : List S128) : St Ty D:=⟨(Env.put (Env.put E (some 1) (.pt 64 0 0)) (some 3) (.sc (.int .i64 x3))),Heap.put H0 [(64,some (.box [.row 0 .t128 h64_0]))],1000⟩
def spec_ArenaOk.s8 (x3 : Int) (x5 : Int) (h64_0 : List S128) (h65_0 : Bool) (h65_1 : List Int) : St Ty D:=⟨(Env.put (Env.put (Env.put (Env.put E (some 1) (.pt 64 0 0)) (some 3) (.sc (.int .i64 x3))) (some 4) (.pt 65 0 0)) (some 5) (.sc (.int .i64 x5))),Heap.put H0 [(64,some (.box [.row 0 .t128 h64_0])),(65,some (.box [.sc (.bool h65_0),.row 0 .t3 h65_1]))],1000⟩
def spec_ArenaOk.ctx (k : Nat) : Ctx Ty D:=(cons 42 (spec_l01In.x k) (fun _ _ _ _=>none))
mutual
def spec_ArenaOk.c2 : Nat → Int → (List S128) → Option (Bool)
 | 0,_,_=>none
 | k + 1,x3,h64_0=>(if x3 < (h64_0.length : Int) then (if 0 ≤ x3 then (if x3 < (h64_0.length : Int) then (if (((rd_T128 h64_0 x3).f1).length : Int) = 4 then (spec_ArenaOk.c8 k x3 0 h64_0 ((rd_T128 h64_0 x3).f0) ((rd_T128 h64_0 x3).f1)) else (some (false))) else none) else none) else (some (true)))
def spec_ArenaOk.c8 : Nat → Int → Int → (List S128) → Bool → (List Int) → Option (Bool)
 | 0,_,_,_,_,_=>none
 | k + 1,x3,x5,h64_0,h65_0,h65_1=>(if x5 < 4 then (if 0 ≤ x5 then (if x5 < (h65_1.length : Int) then (if h65_0 = true then (if (rd_T3 h65_1 x5) < 0 then (some (false)) else (if h65_0 = true then (spec_ArenaOk.c8 k x3 (w64 (x5 + 1)) h64_0 h65_0 h65_1) else (if (rd_T3 h65_1 x5) = (-1) then (spec_ArenaOk.c8 k x3 (w64 (x5 + 1)) h64_0 h65_0 h65_1) else ((spec_l01In.f k (rd_T3 h65_1 x5) 0 (w64 (x3 - 1))).bind fun t1=>(if t1 = true then (if 0 ≤ (rd_T3 h65_1 x5) then (if (rd_T3 h65_1 x5) < (h64_0.length : Int) then (if ((rd_T128 h64_0 (rd_T3 h65_1 x5)).f0) = true then (spec_ArenaOk.c8 k x3 (w64 (x5 + 1)) h64_0 h65_0 h65_1) else (some (false))) else none) else none) else (some (false))))))) else (if h65_0 = true then (spec_ArenaOk.c8 k x3 (w64 (x5 + 1)) h64_0 h65_0 h65_1) else (if (rd_T3 h65_1 x5) = (-1) then (spec_ArenaOk.c8 k x3 (w64 (x5 + 1)) h64_0 h65_0 h65_1) else ((spec_l01In.f k (rd_T3 h65_1 x5) 0 (w64 (x3 - 1))).bind fun t2=>(if t2 = true then (if 0 ≤ (rd_T3 h65_1 x5) then (if (rd_T3 h65_1 x5) < (h64_0.length : Int) then (if ((rd_T128 h64_0 (rd_T3 h65_1 x5)).f0) = true then (spec_ArenaOk.c8 k x3 (w64 (x5 + 1)) h64_0 h65_0 h65_1) else (some (false))) else none) else none) else (some (false))))))) else none) else none) else (spec_ArenaOk.c2 k (w64 (x3 + 1)) h64_0))
end
def spec_ArenaOk.f (k : Nat) (a0_0 : List S128) : Option (Bool):=(spec_ArenaOk.c2 k 0 a0_0)
def spec_ArenaOk.e (r : Bool) : Res Ty D:=(.sc (.bool r),[],[])
abbrev spec_ArenaOk.g (rec : List Item → St Ty D → R) (k : Nat):=go1 Tryz.f62 (spec_ArenaOk.ctx k) spec_ArenaOk.sp 0 spec_ArenaOk.en rec
theorem spec_ArenaOk.t2 (rec : List Item → St Ty D → R) (k : Nat) (x3 : Int) (h64_0 : List S128) : spec_ArenaOk.g rec k (td Tryz.f62 2) (spec_ArenaOk.s2 x3 h64_0) =
 bif decide (x3 < (h64_0.length : Int)) then bif decide (0 ≤ x3) then bif decide (x3 < (h64_0.length : Int)) then bif !decide ((((rd_T128 h64_0 x3).f1).length : Int) = 4) then some (spec_ArenaOk.e (false)) else rec (td Tryz.f62 8) (spec_ArenaOk.s8 x3 0 h64_0 ((rd_T128 h64_0 x3).f0) ((rd_T128 h64_0 x3).f1)) else none else none else some (spec_ArenaOk.e (true)):=by kernel_rfl
theorem spec_ArenaOk.t8 (rec : List Item → St Ty D → R) (k : Nat) (x3 : Int) (x5 : Int) (h64_0 : List S128) (h65_0 : Bool) (h65_1 : List Int) : spec_ArenaOk.g rec k (td Tryz.f62 8) (spec_ArenaOk.s8 x3 x5 h64_0 h65_0 h65_1) =
 bif decide (x5 < 4) then bif decide (0 ≤ x5) then bif decide (x5 < (h65_1.length : Int)) then bif h65_0 then bif decide ((rd_T3 h65_1 x5) < 0) then some (spec_ArenaOk.e (false)) else bif !h65_0 then bif !decide ((rd_T3 h65_1 x5) = (-1)) then (spec_l01In.f k (rd_T3 h65_1 x5) 0 (w64 (x3 - 1))).bind fun t1=>bif !t1 then some (spec_ArenaOk.e (false)) else bif decide (0 ≤ (rd_T3 h65_1 x5)) then bif decide ((rd_T3 h65_1 x5) < (h64_0.length : Int)) then bif !((rd_T128 h64_0 (rd_T3 h65_1 x5)).f0) then some (spec_ArenaOk.e (false)) else rec (td Tryz.f62 8) (spec_ArenaOk.s8 x3 (w64 (x5 + 1)) h64_0 h65_0 h65_1) else none else none else rec (td Tryz.f62 8) (spec_ArenaOk.s8 x3 (w64 (x5 + 1)) h64_0 h65_0 h65_1) else rec (td Tryz.f62 8) (spec_ArenaOk.s8 x3 (w64 (x5 + 1)) h64_0 h65_0 h65_1) else bif !h65_0 then bif !decide ((rd_T3 h65_1 x5) = (-1)) then (spec_l01In.f k (rd_T3 h65_1 x5) 0 (w64 (x3 - 1))).bind fun t2=>bif !t2 then some (spec_ArenaOk.e (false)) else bif decide (0 ≤ (rd_T3 h65_1 x5)) then bif decide ((rd_T3 h65_1 x5) < (h64_0.length : Int)) then bif !((rd_T128 h64_0 (rd_T3 h65_1 x5)).f0) then some (spec_ArenaOk.e (false)) else rec (td Tryz.f62 8) (spec_ArenaOk.s8 x3 (w64 (x5 + 1)) h64_0 h65_0 h65_1) else none else none else rec (td Tryz.f62 8) (spec_ArenaOk.s8 x3 (w64 (x5 + 1)) h64_0 h65_0 h65_1) else rec (td Tryz.f62 8) (spec_ArenaOk.s8 x3 (w64 (x5 + 1)) h64_0 h65_0 h65_1) else none else none else rec (td Tryz.f62 2) (spec_ArenaOk.s2 (w64 (x3 + 1)) h64_0):=by kernel_rfl
theorem spec_ArenaOk.te (rec : List Item → St Ty D → R) (k : Nat) (a0_0 : List S128) : spec_ArenaOk.g rec k [.code (body Tryz.f62)] (startSt [.ag [.row 0 .t128 a0_0]] []) =
 rec (td Tryz.f62 2) (spec_ArenaOk.s2 0 a0_0):=by kernel_rfl
theorem spec_ArenaOk.ok : ∀ k : Nat,(∀ (x3 : Int) (h64_0 : List S128),goF Tryz.f62 spec_ArenaOk.ctx spec_ArenaOk.sp 0 spec_ArenaOk.en k (td Tryz.f62 2) (spec_ArenaOk.s2 x3 h64_0) = (spec_ArenaOk.c2 k x3 h64_0).map spec_ArenaOk.e) ∧ (∀ (x3 : Int) (x5 : Int) (h64_0 : List S128) (h65_0 : Bool) (h65_1 : List Int),goF Tryz.f62 spec_ArenaOk.ctx spec_ArenaOk.sp 0 spec_ArenaOk.en k (td Tryz.f62 8) (spec_ArenaOk.s8 x3 x5 h64_0 h65_0 h65_1) = (spec_ArenaOk.c8 k x3 x5 h64_0 h65_0 h65_1).map spec_ArenaOk.e)
 | 0=>⟨fun _ _=>rfl,fun _ _ _ _ _=>rfl⟩
 | k + 1=>by
  have ih:=spec_ArenaOk.ok k;obtain ⟨i2,i8⟩:=ih;refine ⟨?_,?_⟩
  ·intro x3 h64_0;rw [spec_ArenaOk.c2];exact (spec_ArenaOk.t2 _ k x3 h64_0).trans (cd (cd (cd (nd rfl (i8 _ _ _ _ _)) rfl) rfl) rfl)
  intro x3 x5 h64_0 h65_0 h65_1;rw [spec_ArenaOk.c8];exact (spec_ArenaOk.t8 _ k x3 x5 h64_0 h65_0 h65_1).trans (cd (cd (cd (cb (cd rfl (nb (nd (bn (fun t1=>(nb rfl (cd (cd (nb rfl (i8 _ _ _ _ _)) rfl) rfl)))) (i8 _ _ _ _ _)) (i8 _ _ _ _ _))) (nb (nd (bn (fun t2=>(nb rfl (cd (cd (nb rfl (i8 _ _ _ _ _)) rfl) rfl)))) (i8 _ _ _ _ _)) (i8 _ _ _ _ _))) rfl) rfl) (i2 _ _))
theorem spec_ArenaOk.oke (k : Nat) (a0_0 : List S128) : goF Tryz.f62 spec_ArenaOk.ctx spec_ArenaOk.sp 0 spec_ArenaOk.en (k + 1) [.code (body Tryz.f62)] (startSt [.ag [.row 0 .t128 a0_0]] []) = (spec_ArenaOk.f k a0_0).map spec_ArenaOk.e:=by
 obtain ⟨i2,i8⟩:=spec_ArenaOk.ok k;rw [spec_ArenaOk.f];exact (spec_ArenaOk.te _ k a0_0).trans (i2 _ _)
theorem spec_ArenaOk.con (k : Nat) (a0_0 : List S128) (r) (h : spec_ArenaOk.f k a0_0 = some r) : Contract Tryz.prog kit 62 [.ag [.row 0 .t128 a0_0]] [] (spec_ArenaOk.e r).1 (spec_ArenaOk.e r).2.1 (spec_ArenaOk.e r).2.2 :=
 con_okG kitOk mix (fun k=>(CtxOk.cons (spec_l01In.xok k) CtxOk.nil)) (spec_ArenaOk.oke k a0_0) h (by kernel_rfl) (by kernel_rfl) (by kernel_rfl) rfl (by kernel_rfl) rfl rfl
def spec_ArenaOk.x (k : Nat) : X:=fun ins bs κ=>match ins,bs with
 | [.ag [.row 0 .t128 a0_0]],[]=>(spec_ArenaOk.f k a0_0).bind fun r=>κ (spec_ArenaOk.e r).1 (spec_ArenaOk.e r).2.1 (spec_ArenaOk.e r).2.2
 | _,_=>none
theorem spec_ArenaOk.xok (k : Nat) : XOk 62 (spec_ArenaOk.x k):=by
 intro ins bs κ res h;unfold spec_ArenaOk.x at h
 split at h
 ·obtain ⟨r,hr,h⟩:=Option.bind_eq_some_iff.1 h;exact ⟨_,_,_,spec_ArenaOk.con k _ r hr,h⟩
 cases h
def spec_l11Root.sp : Nat → Option (Spec Ty):=fun r=>none
def spec_l11Root.en : Option (Spec Ty):=none
def spec_l11Root.ctx (k : Nat) : Ctx Ty D:=(cons 42 (spec_l01In.x k) (fun _ _ _ _=>none))
def spec_l11Root.f (k : Nat) (a0_0 : List S128) (a1 : Int) : Option (Bool):=(if a1 = (-1) then (some (true)) else ((spec_l01In.f k a1 0 (w64 ((a0_0.length : Int) - 1))).bind fun t1=>(if t1 = true then (if 0 ≤ a1 then (if a1 < (a0_0.length : Int) then (some ((!((rd_T128 a0_0 a1).f0)))) else none) else none) else (some (false)))))
def spec_l11Root.e (r : Bool) : Res Ty D:=(.sc (.bool r),[],[])
abbrev spec_l11Root.g (rec : List Item → St Ty D → R) (k : Nat):=go1 Tryz.f63 (spec_l11Root.ctx k) spec_l11Root.sp 0 spec_l11Root.en rec
theorem spec_l11Root.te (rec : List Item → St Ty D → R) (k : Nat) (a0_0 : List S128) (a1 : Int) : spec_l11Root.g rec k [.code (body Tryz.f63)] (startSt [.ag [.row 0 .t128 a0_0],.sc (.int .i64 a1)] []) =
 bif decide (a1 = (-1)) then some (spec_l11Root.e (true)) else (spec_l01In.f k a1 0 (w64 ((a0_0.length : Int) - 1))).bind fun t1=>bif t1 then bif decide (0 ≤ a1) then bif decide (a1 < (a0_0.length : Int)) then some (spec_l11Root.e ((!((rd_T128 a0_0 a1).f0)))) else none else none else some (spec_l11Root.e (false)):=by kernel_rfl
theorem spec_l11Root.oke (k : Nat) (a0_0 : List S128) (a1 : Int) : goF Tryz.f63 spec_l11Root.ctx spec_l11Root.sp 0 spec_l11Root.en (k + 1) [.code (body Tryz.f63)] (startSt [.ag [.row 0 .t128 a0_0],.sc (.int .i64 a1)] []) = (spec_l11Root.f k a0_0 a1).map spec_l11Root.e:=by
 rw [spec_l11Root.f];exact (spec_l11Root.te _ k a0_0 a1).trans (cd rfl (bn (fun t1=>(cb (cd (cd rfl rfl) rfl) rfl))))
theorem spec_l11Root.con (k : Nat) (a0_0 : List S128) (a1 : Int) (r) (h : spec_l11Root.f k a0_0 a1 = some r) : Contract Tryz.prog kit 63 [.ag [.row 0 .t128 a0_0],.sc (.int .i64 a1)] [] (spec_l11Root.e r).1 (spec_l11Root.e r).2.1 (spec_l11Root.e r).2.2 :=
 con_okG kitOk mix (fun k=>(CtxOk.cons (spec_l01In.xok k) CtxOk.nil)) (spec_l11Root.oke k a0_0 a1) h (by kernel_rfl) (by kernel_rfl) (by kernel_rfl) rfl (by kernel_rfl) rfl rfl
def spec_l11Root.x (k : Nat) : X:=fun ins bs κ=>match ins,bs with
 | [.ag [.row 0 .t128 a0_0],.sc (.int .i64 a1)],[]=>(spec_l11Root.f k a0_0 a1).bind fun r=>κ (spec_l11Root.e r).1 (spec_l11Root.e r).2.1 (spec_l11Root.e r).2.2
 | _,_=>none
theorem spec_l11Root.xok (k : Nat) : XOk 63 (spec_l11Root.x k):=by
 intro ins bs κ res h;unfold spec_l11Root.x at h
 split at h
 ·obtain ⟨r,hr,h⟩:=Option.bind_eq_some_iff.1 h;exact ⟨_,_,_,spec_l11Root.con k _ _ r hr,h⟩
 cases h
def spec_l11Get.sp : Nat → Option (Spec Ty):=fun r=>none
def spec_l11Get.en : Option (Spec Ty):=none
def spec_l11Get.ctx (k : Nat) : Ctx Ty D:=(fun _ _ _ _=>none)
def spec_l11Get.f (k : Nat) (a0_0 : List S128) (a1 : Int) (a2 : Int) : Option (Int):=(if a1 < 0 then (some (0)) else (if 0 ≤ a1 then (if a1 < (a0_0.length : Int) then (if 0 ≤ (w64 (Int.tdiv a2 4)) then (if (w64 (Int.tdiv a2 4)) < (((rd_T128 a0_0 a1).f1).length : Int) then (if (rd_T3 ((rd_T128 a0_0 a1).f1) (w64 (Int.tdiv a2 4))) < 0 then (some (0)) else (if 0 ≤ (rd_T3 ((rd_T128 a0_0 a1).f1) (w64 (Int.tdiv a2 4))) then (if (rd_T3 ((rd_T128 a0_0 a1).f1) (w64 (Int.tdiv a2 4))) < (a0_0.length : Int) then (if 0 ≤ (Int.tmod a2 4) then (if (Int.tmod a2 4) < (((rd_T128 a0_0 (rd_T3 ((rd_T128 a0_0 a1).f1) (w64 (Int.tdiv a2 4)))).f1).length : Int) then (some ((rd_T3 ((rd_T128 a0_0 (rd_T3 ((rd_T128 a0_0 a1).f1) (w64 (Int.tdiv a2 4)))).f1) (Int.tmod a2 4)))) else none) else none) else none) else none)) else none) else none) else none) else none))
def spec_l11Get.e (r : Int) : Res Ty D:=(.sc (.int .i64 r),[],[])
abbrev spec_l11Get.g (rec : List Item → St Ty D → R) (k : Nat):=go1 Tryz.f64 (spec_l11Get.ctx k) spec_l11Get.sp 0 spec_l11Get.en rec
theorem spec_l11Get.te (rec : List Item → St Ty D → R) (k : Nat) (a0_0 : List S128) (a1 : Int) (a2 : Int) : spec_l11Get.g rec k [.code (body Tryz.f64)] (startSt [.ag [.row 0 .t128 a0_0],.sc (.int .i64 a1),.sc (.int .i64 a2)] []) =
 bif decide (a1 < 0) then some (spec_l11Get.e (0)) else bif decide (0 ≤ a1) then bif decide (a1 < (a0_0.length : Int)) then bif decide (0 ≤ (w64 (Int.tdiv a2 4))) then bif decide ((w64 (Int.tdiv a2 4)) < (((rd_T128 a0_0 a1).f1).length : Int)) then bif decide ((rd_T3 ((rd_T128 a0_0 a1).f1) (w64 (Int.tdiv a2 4))) < 0) then some (spec_l11Get.e (0)) else bif decide (0 ≤ (rd_T3 ((rd_T128 a0_0 a1).f1) (w64 (Int.tdiv a2 4)))) then bif decide ((rd_T3 ((rd_T128 a0_0 a1).f1) (w64 (Int.tdiv a2 4))) < (a0_0.length : Int)) then bif decide (0 ≤ (Int.tmod a2 4)) then bif decide ((Int.tmod a2 4) < (((rd_T128 a0_0 (rd_T3 ((rd_T128 a0_0 a1).f1) (w64 (Int.tdiv a2 4)))).f1).length : Int)) then some (spec_l11Get.e ((rd_T3 ((rd_T128 a0_0 (rd_T3 ((rd_T128 a0_0 a1).f1) (w64 (Int.tdiv a2 4)))).f1) (Int.tmod a2 4)))) else none else none else none else none else none else none else none else none:=by kernel_rfl
theorem spec_l11Get.oke (k : Nat) (a0_0 : List S128) (a1 : Int) (a2 : Int) : goF Tryz.f64 spec_l11Get.ctx spec_l11Get.sp 0 spec_l11Get.en (k + 1) [.code (body Tryz.f64)] (startSt [.ag [.row 0 .t128 a0_0],.sc (.int .i64 a1),.sc (.int .i64 a2)] []) = (spec_l11Get.f k a0_0 a1 a2).map spec_l11Get.e:=by
 rw [spec_l11Get.f];exact (spec_l11Get.te _ k a0_0 a1 a2).trans (cd rfl (cd (cd (cd (cd (cd rfl (cd (cd (cd (cd rfl rfl) rfl) rfl) rfl)) rfl) rfl) rfl) rfl))
theorem spec_l11Get.con (k : Nat) (a0_0 : List S128) (a1 : Int) (a2 : Int) (r) (h : spec_l11Get.f k a0_0 a1 a2 = some r) : Contract Tryz.prog kit 64 [.ag [.row 0 .t128 a0_0],.sc (.int .i64 a1),.sc (.int .i64 a2)] [] (spec_l11Get.e r).1 (spec_l11Get.e r).2.1 (spec_l11Get.e r).2.2 :=
 con_okG kitOk mix (fun k=>CtxOk.nil) (spec_l11Get.oke k a0_0 a1 a2) h (by kernel_rfl) (by kernel_rfl) (by kernel_rfl) rfl (by kernel_rfl) rfl rfl
def spec_l11Get.x (k : Nat) : X:=fun ins bs κ=>match ins,bs with
 | [.ag [.row 0 .t128 a0_0],.sc (.int .i64 a1),.sc (.int .i64 a2)],[]=>(spec_l11Get.f k a0_0 a1 a2).bind fun r=>κ (spec_l11Get.e r).1 (spec_l11Get.e r).2.1 (spec_l11Get.e r).2.2
 | _,_=>none
theorem spec_l11Get.xok (k : Nat) : XOk 64 (spec_l11Get.x k):=by
 intro ins bs κ res h;unfold spec_l11Get.x at h
 split at h
 ·obtain ⟨r,hr,h⟩:=Option.bind_eq_some_iff.1 h;exact ⟨_,_,_,spec_l11Get.con k _ _ _ r hr,h⟩
 cases h
def spec_GetAt.sp : Nat → Option (Spec Ty):=fun r=>none
def spec_GetAt.en : Option (Spec Ty):=none
def spec_GetAt.ctx (k : Nat) : Ctx Ty D:=(cons 42 (spec_l01In.x k) (cons 62 (spec_ArenaOk.x k) (cons 63 (spec_l11Root.x k) (cons 64 (spec_l11Get.x k) (fun _ _ _ _=>none)))))
def spec_GetAt.f (k : Nat) (a0_0 : List S128) (a1 : Int) (a2 : Int) : Option (Int):=((spec_ArenaOk.f k a0_0).bind fun t1=>(if t1 = true then ((spec_l11Root.f k a0_0 a1).bind fun t2=>(if t2 = true then ((spec_l01In.f k a2 0 15).bind fun t3=>(if t3 = true then ((spec_l11Get.f k a0_0 a1 a2).bind fun t4=>(some (t4))) else (some (0)))) else (some (0)))) else (some (0))))
def spec_GetAt.e (r : Int) : Res Ty D:=(.sc (.int .i64 r),[],[])
abbrev spec_GetAt.g (rec : List Item → St Ty D → R) (k : Nat):=go1 Tryz.f39 (spec_GetAt.ctx k) spec_GetAt.sp 0 spec_GetAt.en rec
theorem spec_GetAt.te (rec : List Item → St Ty D → R) (k : Nat) (a0_0 : List S128) (a1 : Int) (a2 : Int) : spec_GetAt.g rec k [.code (body Tryz.f39)] (startSt [.ag [.row 0 .t128 a0_0],.sc (.int .i64 a1),.sc (.int .i64 a2)] []) =
 (spec_ArenaOk.f k a0_0).bind fun t1=>bif !t1 then some (spec_GetAt.e (0)) else (spec_l11Root.f k a0_0 a1).bind fun t2=>bif !t2 then some (spec_GetAt.e (0)) else (spec_l01In.f k a2 0 15).bind fun t3=>bif !t3 then some (spec_GetAt.e (0)) else (spec_l11Get.f k a0_0 a1 a2).bind fun t4=>some (spec_GetAt.e (t4)):=by kernel_rfl
theorem spec_GetAt.oke (k : Nat) (a0_0 : List S128) (a1 : Int) (a2 : Int) : goF Tryz.f39 spec_GetAt.ctx spec_GetAt.sp 0 spec_GetAt.en (k + 1) [.code (body Tryz.f39)] (startSt [.ag [.row 0 .t128 a0_0],.sc (.int .i64 a1),.sc (.int .i64 a2)] []) = (spec_GetAt.f k a0_0 a1 a2).map spec_GetAt.e:=by
 rw [spec_GetAt.f];exact (spec_GetAt.te _ k a0_0 a1 a2).trans (bn (fun t1=>(nb rfl (bn (fun t2=>(nb rfl (bn (fun t3=>(nb rfl (bn (fun t4=>rfl)))))))))))
theorem spec_GetAt.con (k : Nat) (a0_0 : List S128) (a1 : Int) (a2 : Int) (r) (h : spec_GetAt.f k a0_0 a1 a2 = some r) : Contract Tryz.prog kit 39 [.ag [.row 0 .t128 a0_0],.sc (.int .i64 a1),.sc (.int .i64 a2)] [] (spec_GetAt.e r).1 (spec_GetAt.e r).2.1 (spec_GetAt.e r).2.2 :=
 con_okG kitOk mix (fun k=>(CtxOk.cons (spec_l01In.xok k) (CtxOk.cons (spec_ArenaOk.xok k) (CtxOk.cons (spec_l11Root.xok k) (CtxOk.cons (spec_l11Get.xok k) CtxOk.nil))))) (spec_GetAt.oke k a0_0 a1 a2) h (by kernel_rfl) (by kernel_rfl) (by kernel_rfl) rfl (by kernel_rfl) rfl rfl
def spec_GetAt.x (k : Nat) : X:=fun ins bs κ=>match ins,bs with
 | [.ag [.row 0 .t128 a0_0],.sc (.int .i64 a1),.sc (.int .i64 a2)],[]=>(spec_GetAt.f k a0_0 a1 a2).bind fun r=>κ (spec_GetAt.e r).1 (spec_GetAt.e r).2.1 (spec_GetAt.e r).2.2
 | _,_=>none
theorem spec_GetAt.xok (k : Nat) : XOk 39 (spec_GetAt.x k):=by
 intro ins bs κ res h;unfold spec_GetAt.x at h
 split at h
 ·obtain ⟨r,hr,h⟩:=Option.bind_eq_some_iff.1 h;exact ⟨_,_,_,spec_GetAt.con k _ _ _ r hr,h⟩
 cases h
def spec_ChunkOf.sp : Nat → Option (Spec Ty):=fun r=>none
def spec_ChunkOf.en : Option (Spec Ty):=none
def spec_ChunkOf.ctx (k : Nat) : Ctx Ty D:=(cons 23 (spec_l12At.x k) (cons 39 (spec_GetAt.x k) (fun _ _ _ _=>none)))
def spec_ChunkOf.f (k : Nat) (a0_0 : List S80) (a0_1 : List S128) (a0_2 : Int) (a1 : Int) (a2 : Int) : Option (Int):=((spec_l12At.f k a0_0 a0_1 a0_2 a1).bind fun t1=>(if t1 < 0 then (some (0)) else (if 0 ≤ t1 then (if t1 < (a0_0.length : Int) then ((spec_GetAt.f k a0_1 ((rd_T80 a0_0 t1).f1) a2).bind fun t2=>(some (t2))) else none) else none)))
def spec_ChunkOf.e (r : Int) : Res Ty D:=(.sc (.int .i64 r),[],[])
abbrev spec_ChunkOf.g (rec : List Item → St Ty D → R) (k : Nat):=go1 Tryz.f24 (spec_ChunkOf.ctx k) spec_ChunkOf.sp 0 spec_ChunkOf.en rec
theorem spec_ChunkOf.te (rec : List Item → St Ty D → R) (k : Nat) (a0_0 : List S80) (a0_1 : List S128) (a0_2 : Int) (a1 : Int) (a2 : Int) : spec_ChunkOf.g rec k [.code (body Tryz.f24)] (startSt [.ag [.row 0 .t80 a0_0,.row 0 .t128 a0_1,.sc (.int .i64 a0_2)],.sc (.int .i64 a1),.sc (.int .i64 a2)] []) =
 (spec_l12At.f k a0_0 a0_1 a0_2 a1).bind fun t1=>bif decide (t1 < 0) then some (spec_ChunkOf.e (0)) else bif decide (0 ≤ t1) then bif decide (t1 < (a0_0.length : Int)) then (spec_GetAt.f k a0_1 ((rd_T80 a0_0 t1).f1) a2).bind fun t2=>some (spec_ChunkOf.e (t2)) else none else none:=by kernel_rfl
theorem spec_ChunkOf.oke (k : Nat) (a0_0 : List S80) (a0_1 : List S128) (a0_2 : Int) (a1 : Int) (a2 : Int) : goF Tryz.f24 spec_ChunkOf.ctx spec_ChunkOf.sp 0 spec_ChunkOf.en (k + 1) [.code (body Tryz.f24)] (startSt [.ag [.row 0 .t80 a0_0,.row 0 .t128 a0_1,.sc (.int .i64 a0_2)],.sc (.int .i64 a1),.sc (.int .i64 a2)] []) = (spec_ChunkOf.f k a0_0 a0_1 a0_2 a1 a2).map spec_ChunkOf.e:=by
 rw [spec_ChunkOf.f];exact (spec_ChunkOf.te _ k a0_0 a0_1 a0_2 a1 a2).trans (bn (fun t1=>(cd rfl (cd (cd (bn (fun t2=>rfl)) rfl) rfl))))
theorem spec_ChunkOf.con (k : Nat) (a0_0 : List S80) (a0_1 : List S128) (a0_2 : Int) (a1 : Int) (a2 : Int) (r) (h : spec_ChunkOf.f k a0_0 a0_1 a0_2 a1 a2 = some r) : Contract Tryz.prog kit 24 [.ag [.row 0 .t80 a0_0,.row 0 .t128 a0_1,.sc (.int .i64 a0_2)],.sc (.int .i64 a1),.sc (.int .i64 a2)] [] (spec_ChunkOf.e r).1 (spec_ChunkOf.e r).2.1 (spec_ChunkOf.e r).2.2 :=
 con_okG kitOk mix (fun k=>(CtxOk.cons (spec_l12At.xok k) (CtxOk.cons (spec_GetAt.xok k) CtxOk.nil))) (spec_ChunkOf.oke k a0_0 a0_1 a0_2 a1 a2) h (by kernel_rfl) (by kernel_rfl) (by kernel_rfl) rfl (by kernel_rfl) rfl rfl
def spec_ChunkOf.x (k : Nat) : X:=fun ins bs κ=>match ins,bs with
 | [.ag [.row 0 .t80 a0_0,.row 0 .t128 a0_1,.sc (.int .i64 a0_2)],.sc (.int .i64 a1),.sc (.int .i64 a2)],[]=>(spec_ChunkOf.f k a0_0 a0_1 a0_2 a1 a2).bind fun r=>κ (spec_ChunkOf.e r).1 (spec_ChunkOf.e r).2.1 (spec_ChunkOf.e r).2.2
 | _,_=>none
theorem spec_ChunkOf.xok (k : Nat) : XOk 24 (spec_ChunkOf.x k):=by
 intro ins bs κ res h;unfold spec_ChunkOf.x at h
 split at h
 ·obtain ⟨r,hr,h⟩:=Option.bind_eq_some_iff.1 h;exact ⟨_,_,_,spec_ChunkOf.con k _ _ _ _ _ r hr,h⟩
 cases h
def spec_l13Newest.sp : Nat → Option (Spec Ty):=fun r=>bif Nat.beq r 2 then some ⟨[(0,.keep),(1,.keep),(4,.box [.keep,.keep,.keep,.keep,.keep,.keep,.keep,.keep]),(6,.keep)],[]⟩ else none
def spec_l13Newest.en : Option (Spec Ty):=none
def spec_l13Newest.s2 (x0 : List S75) (x1 : Int) (x6 : Int) (h64_0 : Int) (h64_1 : Int) (h64_2 : Int) (h64_3 : Int) (h64_4 : Int) (h64_5 : Int) (h64_6 : Int) (h64_7 : ByteArray) : St Ty D:=⟨(Env.put (Env.put (Env.put (Env.put E (some 0) (.row 0 .t75 x0)) (some 1) (.sc (.int .i64 x1))) (some 4) (.pt 64 0 0)) (some 6) (.sc (.int .i64 x6))),Heap.put H0 [(64,some (.box [.sc (.int .i64 h64_0),.sc (.int .i64 h64_1),.sc (.int .i64 h64_2),.sc (.int .i64 h64_3),.sc (.int .i64 h64_4),.sc (.int .i64 h64_5),.sc (.int .i64 h64_6),.sc (.string h64_7)]))],1000⟩
def spec_l13Newest.ctx (k : Nat) : Ctx Ty D:=(fun _ _ _ _=>none)
def spec_l13Newest.c2 : Nat → (List S75) → Int → Int → Int → Int → Int → Int → Int → Int → Int → ByteArray → Option (Int × Int × Int × Int × Int × Int × Int × ByteArray × Bool)
 | 0,_,_,_,_,_,_,_,_,_,_,_=>none
 | k + 1,x0,x1,x6,h64_0,h64_1,h64_2,h64_3,h64_4,h64_5,h64_6,h64_7=>(if x6 ≥ 0 then (if 0 ≤ x6 then (if x6 < (x0.length : Int) then (if ((rd_T75 x0 x6).f2.f0) = 1 then (if 0 ≤ x6 then (if x6 < (x0.length : Int) then (if ((rd_T75 x0 x6).f2.f2) = x1 then (if 0 ≤ x6 then (if x6 < (x0.length : Int) then (some ((rd_T75 x0 x6).f0,(rd_T75 x0 x6).f1,(rd_T75 x0 x6).f2.f0,(rd_T75 x0 x6).f2.f1,(rd_T75 x0 x6).f2.f2,(rd_T75 x0 x6).f2.f3,(rd_T75 x0 x6).f2.f4,(rd_T75 x0 x6).f2.f5,true)) else none) else none) else (spec_l13Newest.c2 k x0 x1 (w64 (x6 - 1)) h64_0 h64_1 h64_2 h64_3 h64_4 h64_5 h64_6 h64_7)) else none) else none) else (spec_l13Newest.c2 k x0 x1 (w64 (x6 - 1)) h64_0 h64_1 h64_2 h64_3 h64_4 h64_5 h64_6 h64_7)) else none) else none) else (some (0,0,0,0,0,0,0,(⟨#[]⟩ : ByteArray),false)))
def spec_l13Newest.f (k : Nat) (a0 : List S75) (a1 : Int) : Option (Int × Int × Int × Int × Int × Int × Int × ByteArray × Bool):=(spec_l13Newest.c2 k a0 a1 (w64 ((a0.length : Int) - 1)) 0 0 0 0 0 0 0 (⟨#[]⟩ : ByteArray))
def spec_l13Newest.e (r : Int × Int × Int × Int × Int × Int × Int × ByteArray × Bool) : Res Ty D:=(.tu [.ag [.sc (.int .i64 r.1),.sc (.int .i64 r.2.1),.sc (.int .i64 r.2.2.1),.sc (.int .i64 r.2.2.2.1),.sc (.int .i64 r.2.2.2.2.1),.sc (.int .i64 r.2.2.2.2.2.1),.sc (.int .i64 r.2.2.2.2.2.2.1),.sc (.string r.2.2.2.2.2.2.2.1)],.sc (.bool r.2.2.2.2.2.2.2.2)],[],[])
abbrev spec_l13Newest.g (rec : List Item → St Ty D → R) (k : Nat):=go1 Tryz.f40 (spec_l13Newest.ctx k) spec_l13Newest.sp 0 spec_l13Newest.en rec
theorem spec_l13Newest.t2 (rec : List Item → St Ty D → R) (k : Nat) (x0 : List S75) (x1 : Int) (x6 : Int) (h64_0 : Int) (h64_1 : Int) (h64_2 : Int) (h64_3 : Int) (h64_4 : Int) (h64_5 : Int) (h64_6 : Int) (h64_7 : ByteArray) : spec_l13Newest.g rec k (td Tryz.f40 2) (spec_l13Newest.s2 x0 x1 x6 h64_0 h64_1 h64_2 h64_3 h64_4 h64_5 h64_6 h64_7) =
 bif decide (x6 ≥ 0) then bif decide (0 ≤ x6) then bif decide (x6 < (x0.length : Int)) then bif decide (((rd_T75 x0 x6).f2.f0) = 1) then bif decide (0 ≤ x6) then bif decide (x6 < (x0.length : Int)) then bif decide (((rd_T75 x0 x6).f2.f2) = x1) then bif decide (0 ≤ x6) then bif decide (x6 < (x0.length : Int)) then some (spec_l13Newest.e ((rd_T75 x0 x6).f0,(rd_T75 x0 x6).f1,(rd_T75 x0 x6).f2.f0,(rd_T75 x0 x6).f2.f1,(rd_T75 x0 x6).f2.f2,(rd_T75 x0 x6).f2.f3,(rd_T75 x0 x6).f2.f4,(rd_T75 x0 x6).f2.f5,true)) else none else none else rec (td Tryz.f40 2) (spec_l13Newest.s2 x0 x1 (w64 (x6 - 1)) h64_0 h64_1 h64_2 h64_3 h64_4 h64_5 h64_6 h64_7) else none else none else rec (td Tryz.f40 2) (spec_l13Newest.s2 x0 x1 (w64 (x6 - 1)) h64_0 h64_1 h64_2 h64_3 h64_4 h64_5 h64_6 h64_7) else none else none else some (spec_l13Newest.e (0,0,0,0,0,0,0,(⟨#[]⟩ : ByteArray),false)):=by kernel_rfl
theorem spec_l13Newest.te (rec : List Item → St Ty D → R) (k : Nat) (a0 : List S75) (a1 : Int) : spec_l13Newest.g rec k [.code (body Tryz.f40)] (startSt [.row 0 .t75 a0,.sc (.int .i64 a1)] []) =
 rec (td Tryz.f40 2) (spec_l13Newest.s2 a0 a1 (w64 ((a0.length : Int) - 1)) 0 0 0 0 0 0 0 (⟨#[]⟩ : ByteArray)):=by kernel_rfl
theorem spec_l13Newest.ok : ∀ k : Nat,(∀ (x0 : List S75) (x1 : Int) (x6 : Int) (h64_0 : Int) (h64_1 : Int) (h64_2 : Int) (h64_3 : Int) (h64_4 : Int) (h64_5 : Int) (h64_6 : Int) (h64_7 : ByteArray),goF Tryz.f40 spec_l13Newest.ctx spec_l13Newest.sp 0 spec_l13Newest.en k (td Tryz.f40 2) (spec_l13Newest.s2 x0 x1 x6 h64_0 h64_1 h64_2 h64_3 h64_4 h64_5 h64_6 h64_7) = (spec_l13Newest.c2 k x0 x1 x6 h64_0 h64_1 h64_2 h64_3 h64_4 h64_5 h64_6 h64_7).map spec_l13Newest.e)
 | 0=>fun _ _ _ _ _ _ _ _ _ _ _=>rfl
 | k + 1=>by
  have ih:=spec_l13Newest.ok k;have i2:=ih;intro x0 x1 x6 h64_0 h64_1 h64_2 h64_3 h64_4 h64_5 h64_6 h64_7;rw [spec_l13Newest.c2];exact (spec_l13Newest.t2 _ k x0 x1 x6 h64_0 h64_1 h64_2 h64_3 h64_4 h64_5 h64_6 h64_7).trans (cd (cd (cd (cd (cd (cd (cd (cd (cd rfl rfl) rfl) (i2 _ _ _ _ _ _ _ _ _ _ _)) rfl) rfl) (i2 _ _ _ _ _ _ _ _ _ _ _)) rfl) rfl) rfl)
theorem spec_l13Newest.oke (k : Nat) (a0 : List S75) (a1 : Int) : goF Tryz.f40 spec_l13Newest.ctx spec_l13Newest.sp 0 spec_l13Newest.en (k + 1) [.code (body Tryz.f40)] (startSt [.row 0 .t75 a0,.sc (.int .i64 a1)] []) = (spec_l13Newest.f k a0 a1).map spec_l13Newest.e:=by
 have i2:=spec_l13Newest.ok k;rw [spec_l13Newest.f];exact (spec_l13Newest.te _ k a0 a1).trans (i2 _ _ _ _ _ _ _ _ _ _ _)
theorem spec_l13Newest.con (k : Nat) (a0 : List S75) (a1 : Int) (r) (h : spec_l13Newest.f k a0 a1 = some r) : Contract Tryz.prog kit 40 [.row 0 .t75 a0,.sc (.int .i64 a1)] [] (spec_l13Newest.e r).1 (spec_l13Newest.e r).2.1 (spec_l13Newest.e r).2.2 :=
 con_okG kitOk mix (fun k=>CtxOk.nil) (spec_l13Newest.oke k a0 a1) h (by kernel_rfl) (by kernel_rfl) (by kernel_rfl) rfl (by kernel_rfl) rfl rfl
def spec_l13Newest.x (k : Nat) : X:=fun ins bs κ=>match ins,bs with
 | [.row 0 .t75 a0,.sc (.int .i64 a1)],[]=>(spec_l13Newest.f k a0 a1).bind fun r=>κ (spec_l13Newest.e r).1 (spec_l13Newest.e r).2.1 (spec_l13Newest.e r).2.2
 | _,_=>none
theorem spec_l13Newest.xok (k : Nat) : XOk 40 (spec_l13Newest.x k):=by
 intro ins bs κ res h;unfold spec_l13Newest.x at h
 split at h
 ·obtain ⟨r,hr,h⟩:=Option.bind_eq_some_iff.1 h;exact ⟨_,_,_,spec_l13Newest.con k _ _ r hr,h⟩
 cases h
def spec_l04Tokens.sp : Nat → Option (Spec Ty):=fun r=>bif Nat.beq r 3 then some ⟨[(0,.keep),(4,.own .t133),(5,.keep)],[]⟩ else none
def spec_l04Tokens.en : Option (Spec Ty):=some ⟨[(2,.own .t133),(3,.keep)],[]⟩
def spec_l04Tokens.s3 (x0 : ByteArray) (x5 : Int) (h64 : List S133) : St Ty D:=⟨(Env.put (Env.put (Env.put E (some 0) (.sc (.string x0))) (some 4) (.sl 64 none)) (some 5) (.sc (.int .i64 x5))),Heap.put H0 [(64,some (.rowb .t133 h64 0))],1000⟩
def spec_l04Tokens.ctx (k : Nat) : Ctx Ty D:=(fun _ _ _ _=>none)
def spec_l04Tokens.c3 : Nat → ByteArray → Int → (List S133) → Option ((List S133) × Bool)
 | 0,_,_,_=>none
 | k + 1,x0,x5,h64=>(if x5 < (x0.size : Int) then (if 0 ≤ x5 then (if x5 < (x0.size : Int) then (if (w64 ((bt x0 x5))) > 128 then (if (w64 (x5 + 2)) > (x0.size : Int) then (some (h64,false)) else (if 0 ≤ (w64 (x5 + 1)) then (if (w64 (x5 + 1)) < (x0.size : Int) then (if h64.length + ([(S133.mk (w64 ((bt x0 (w64 (x5 + 1))))) (w64 ((w64 ((bt x0 x5))) - 128)) (⟨#[]⟩ : ByteArray))] : List S133).length ≤ 4398046511104 then (spec_l04Tokens.c3 k x0 (w64 (x5 + 2)) (h64 ++ ([(S133.mk (w64 ((bt x0 (w64 (x5 + 1))))) (w64 ((w64 ((bt x0 x5))) - 128)) (⟨#[]⟩ : ByteArray))] : List S133))) else none) else none) else none)) else (if (w64 ((w64 (x5 + 1)) + (w64 ((bt x0 x5))))) > (x0.size : Int) then (some (h64,false)) else (if 0 ≤ (w64 ((w64 (x5 + 1)) + (w64 ((bt x0 x5))))) then (if (w64 ((w64 (x5 + 1)) + (w64 ((bt x0 x5))))) ≤ (x0.size : Int) then (if 0 ≤ (w64 (x5 + 1)) then (if (w64 (x5 + 1)) ≤ (w64 ((w64 (x5 + 1)) + (w64 ((bt x0 x5))))) then (if h64.length + ([(S133.mk 0 0 (x0.extract ((w64 (x5 + 1)).toNat) ((w64 ((w64 (x5 + 1)) + (w64 ((bt x0 x5))))).toNat)))] : List S133).length ≤ 4398046511104 then (spec_l04Tokens.c3 k x0 (w64 ((w64 (x5 + 1)) + (w64 ((bt x0 x5))))) (h64 ++ ([(S133.mk 0 0 (x0.extract ((w64 (x5 + 1)).toNat) ((w64 ((w64 (x5 + 1)) + (w64 ((bt x0 x5))))).toNat)))] : List S133))) else none) else none) else none) else none) else none))) else none) else none) else (some (h64,true)))
def spec_l04Tokens.f (k : Nat) (a0 : ByteArray) : Option ((List S133) × Bool):=(spec_l04Tokens.c3 k a0 0 ([] : List S133))
def spec_l04Tokens.e (r : (List S133) × Bool) : Res Ty D:=(.tu [.sl 0 none,.sc (.bool r.2)],[],[.rowb .t133 r.1 0])
abbrev spec_l04Tokens.g (rec : List Item → St Ty D → R) (k : Nat):=go1 Tryz.f65 (spec_l04Tokens.ctx k) spec_l04Tokens.sp 0 spec_l04Tokens.en rec
theorem spec_l04Tokens.t3 (rec : List Item → St Ty D → R) (k : Nat) (x0 : ByteArray) (x5 : Int) (h64 : List S133) : spec_l04Tokens.g rec k (td Tryz.f65 3) (spec_l04Tokens.s3 x0 x5 h64) =
 bif decide (x5 < (x0.size : Int)) then bif decide (0 ≤ x5) then bif decide (x5 < (x0.size : Int)) then bif decide ((w64 ((bt x0 x5))) > 128) then bif decide ((w64 (x5 + 2)) > (x0.size : Int)) then some (spec_l04Tokens.e (h64,false)) else bif decide (0 ≤ (w64 (x5 + 1))) then bif decide ((w64 (x5 + 1)) < (x0.size : Int)) then bif decide (h64.length + ([(S133.mk (w64 ((bt x0 (w64 (x5 + 1))))) (w64 ((w64 ((bt x0 x5))) - 128)) (⟨#[]⟩ : ByteArray))] : List S133).length ≤ 4398046511104) then rec (td Tryz.f65 3) (spec_l04Tokens.s3 x0 (w64 (x5 + 2)) (h64 ++ ([(S133.mk (w64 ((bt x0 (w64 (x5 + 1))))) (w64 ((w64 ((bt x0 x5))) - 128)) (⟨#[]⟩ : ByteArray))] : List S133))) else none else none else none else bif decide ((w64 ((w64 (x5 + 1)) + (w64 ((bt x0 x5))))) > (x0.size : Int)) then some (spec_l04Tokens.e (h64,false)) else bif decide (0 ≤ (w64 ((w64 (x5 + 1)) + (w64 ((bt x0 x5)))))) then bif decide ((w64 ((w64 (x5 + 1)) + (w64 ((bt x0 x5))))) ≤ (x0.size : Int)) then bif decide (0 ≤ (w64 (x5 + 1))) then bif decide ((w64 (x5 + 1)) ≤ (w64 ((w64 (x5 + 1)) + (w64 ((bt x0 x5)))))) then bif decide (h64.length + ([(S133.mk 0 0 (x0.extract ((w64 (x5 + 1)).toNat) ((w64 ((w64 (x5 + 1)) + (w64 ((bt x0 x5))))).toNat)))] : List S133).length ≤ 4398046511104) then rec (td Tryz.f65 3) (spec_l04Tokens.s3 x0 (w64 ((w64 (x5 + 1)) + (w64 ((bt x0 x5))))) (h64 ++ ([(S133.mk 0 0 (x0.extract ((w64 (x5 + 1)).toNat) ((w64 ((w64 (x5 + 1)) + (w64 ((bt x0 x5))))).toNat)))] : List S133))) else none else none else none else none else none else none else none else some (spec_l04Tokens.e (h64,true)):=by kernel_rfl
theorem spec_l04Tokens.te (rec : List Item → St Ty D → R) (k : Nat) (a0 : ByteArray) : spec_l04Tokens.g rec k [.code (body Tryz.f65)] (startSt [.sc (.string a0)] []) =
 rec (td Tryz.f65 3) (spec_l04Tokens.s3 a0 0 ([] : List S133)):=by kernel_rfl
theorem spec_l04Tokens.ok : ∀ k : Nat,(∀ (x0 : ByteArray) (x5 : Int) (h64 : List S133),goF Tryz.f65 spec_l04Tokens.ctx spec_l04Tokens.sp 0 spec_l04Tokens.en k (td Tryz.f65 3) (spec_l04Tokens.s3 x0 x5 h64) = (spec_l04Tokens.c3 k x0 x5 h64).map spec_l04Tokens.e)
 | 0=>fun _ _ _=>rfl
 | k + 1=>by
  have ih:=spec_l04Tokens.ok k;have i3:=ih;intro x0 x5 h64;rw [spec_l04Tokens.c3];exact (spec_l04Tokens.t3 _ k x0 x5 h64).trans (cd (cd (cd (cd (cd rfl (cd (cd (cd (i3 _ _ _) rfl) rfl) rfl)) (cd rfl (cd (cd (cd (cd (cd (i3 _ _ _) rfl) rfl) rfl) rfl) rfl))) rfl) rfl) rfl)
theorem spec_l04Tokens.oke (k : Nat) (a0 : ByteArray) : goF Tryz.f65 spec_l04Tokens.ctx spec_l04Tokens.sp 0 spec_l04Tokens.en (k + 1) [.code (body Tryz.f65)] (startSt [.sc (.string a0)] []) = (spec_l04Tokens.f k a0).map spec_l04Tokens.e:=by
 have i3:=spec_l04Tokens.ok k;rw [spec_l04Tokens.f];exact (spec_l04Tokens.te _ k a0).trans (i3 _ _ _)
theorem spec_l04Tokens.con (k : Nat) (a0 : ByteArray) (r) (h : spec_l04Tokens.f k a0 = some r) : Contract Tryz.prog kit 65 [.sc (.string a0)] [] (spec_l04Tokens.e r).1 (spec_l04Tokens.e r).2.1 (spec_l04Tokens.e r).2.2 :=
 con_okG kitOk mix (fun k=>CtxOk.nil) (spec_l04Tokens.oke k a0) h (by kernel_rfl) (by kernel_rfl) (by kernel_rfl) rfl (by kernel_rfl) rfl rfl
def spec_l04Tokens.x (k : Nat) : X:=fun ins bs κ=>match ins,bs with
 | [.sc (.string a0)],[]=>(spec_l04Tokens.f k a0).bind fun r=>κ (spec_l04Tokens.e r).1 (spec_l04Tokens.e r).2.1 (spec_l04Tokens.e r).2.2
 | _,_=>none
theorem spec_l04Tokens.xok (k : Nat) : XOk 65 (spec_l04Tokens.x k):=by
 intro ins bs κ res h;unfold spec_l04Tokens.x at h
 split at h
 ·obtain ⟨r,hr,h⟩:=Option.bind_eq_some_iff.1 h;exact ⟨_,_,_,spec_l04Tokens.con k _ r hr,h⟩
 cases h
def spec_PlainOf.sp : Nat → Option (Spec Ty):=fun r=>bif Nat.beq r 3 then some ⟨[(0,.keep),(4,.own .t5),(5,.keep)],[]⟩ else bif Nat.beq r 13 then some ⟨[(0,.keep),(4,.own .t5),(5,.keep),(6,.box [.keep,.keep,.keep]),(7,.keep),(45,.box [.keep,.keep,.keep]),(46,.keep),(47,.keep),(48,.keep),(51,.box [.keep,.keep,.keep]),(52,.keep),(53,.keep)],[]⟩ else none
def spec_PlainOf.en : Option (Spec Ty):=none
def spec_PlainOf.s3 (x0 : List S133) (x5 : Int) (h64 : List Int) : St Ty D:=⟨(Env.put (Env.put (Env.put E (some 0) (.row 0 .t133 x0)) (some 4) (.sl 64 none)) (some 5) (.sc (.int .i64 x5))),Heap.put H0 [(64,some (.rowb .t5 h64 0))],1000⟩
def spec_PlainOf.s13 (x0 : List S133) (x5 : Int) (x7 : Int) (x46 : Int) (x47 : Bool) (x48 : Bool) (x52 : ByteArray) (x53 : Bool) (h64 : List Int) (h65_0 : Int) (h65_1 : Int) (h65_2 : ByteArray) : St Ty D:=⟨(Env.put (Env.put (Env.put (Env.put (Env.put (Env.put (Env.put (Env.put (Env.put (Env.put (Env.put (Env.put E (some 0) (.row 0 .t133 x0)) (some 4) (.sl 64 none)) (some 5) (.sc (.int .i64 x5))) (some 6) (.pt 65 0 0)) (some 7) (.sc (.int .i64 x7))) (some 45) (.pt 65 0 1)) (some 46) (.sc (.int .i64 x46))) (some 47) (.sc (.bool x47))) (some 48) (.sc (.bool x48))) (some 51) (.pt 65 0 2)) (some 52) (.sc (.string x52))) (some 53) (.sc (.bool x53))),Heap.put H0 [(64,some (.rowb .t5 h64 0)),(65,some (.box [.sc (.int .i64 h65_0),.sc (.int .i64 h65_1),.sc (.string h65_2)]))],1000⟩
def spec_PlainOf.ctx (k : Nat) : Ctx Ty D:=(cons 42 (spec_l01In.x k) (fun _ _ _ _=>none))
mutual
def spec_PlainOf.c3 : Nat → (List S133) → Int → (List Int) → Option (ByteArray × Bool)
 | 0,_,_,_=>none
 | k + 1,x0,x5,h64=>(if x5 < (x0.length : Int) then (if 0 ≤ x5 then (if x5 < (x0.length : Int) then (if ((rd_T133 x0 x5).f0) = 0 then ((spec_l01In.f k (((rd_T133 x0 x5).f2).size : Int) 1 31).bind fun t1=>(if t1 = true then (if ((rd_T133 x0 x5).f1) = 0 then (if h64.length + (bytesOf ((rd_T133 x0 x5).f2)).length ≤ 140737488355328 then (if ((h64 ++ (bytesOf ((rd_T133 x0 x5).f2))).length : Int) > 64 then (some ((⟨#[]⟩ : ByteArray),false)) else (spec_PlainOf.c3 k x0 (w64 (x5 + 1)) (h64 ++ (bytesOf ((rd_T133 x0 x5).f2))))) else none) else (some ((⟨#[]⟩ : ByteArray),false))) else (some ((⟨#[]⟩ : ByteArray),false)))) else ((spec_l01In.f k ((rd_T133 x0 x5).f0) 1 (h64.length : Int)).bind fun t2=>(if t2 = true then ((spec_l01In.f k ((rd_T133 x0 x5).f1) 1 31).bind fun t3=>(if t3 = true then (if (seq ((rd_T133 x0 x5).f2) (⟨#[]⟩ : ByteArray)) = true then (spec_PlainOf.c13 k x0 x5 0 ((rd_T133 x0 x5).f1) t3 (!t3) ((rd_T133 x0 x5).f2) (!(seq ((rd_T133 x0 x5).f2) (⟨#[]⟩ : ByteArray))) h64 ((rd_T133 x0 x5).f0) ((rd_T133 x0 x5).f1) ((rd_T133 x0 x5).f2)) else (some ((⟨#[]⟩ : ByteArray),false))) else (some ((⟨#[]⟩ : ByteArray),false)))) else (some ((⟨#[]⟩ : ByteArray),false))))) else none) else none) else (some ((strOfNums h64),true)))
def spec_PlainOf.c13 : Nat → (List S133) → Int → Int → Int → Bool → Bool → ByteArray → Bool → (List Int) → Int → Int → ByteArray → Option (ByteArray × Bool)
 | 0,_,_,_,_,_,_,_,_,_,_,_,_=>none
 | k + 1,x0,x5,x7,x46,x47,x48,x52,x53,h64,h65_0,h65_1,h65_2=>(if x7 < h65_1 then (if 0 ≤ (w64 ((h64.length : Int) - h65_0)) then (if (w64 ((h64.length : Int) - h65_0)) < (h64.length : Int) then (if h64.length + ([(rd_T5 h64 (w64 ((h64.length : Int) - h65_0)))] : List Int).length ≤ 140737488355328 then (spec_PlainOf.c13 k x0 x5 (w64 (x7 + 1)) x46 x47 x48 x52 x53 (h64 ++ ([(rd_T5 h64 (w64 ((h64.length : Int) - h65_0)))] : List Int)) h65_0 h65_1 h65_2) else none) else none) else none) else (if (h64.length : Int) > 64 then (some ((⟨#[]⟩ : ByteArray),false)) else (spec_PlainOf.c3 k x0 (w64 (x5 + 1)) h64)))
end
def spec_PlainOf.f (k : Nat) (a0 : List S133) : Option (ByteArray × Bool):=(spec_PlainOf.c3 k a0 0 ([] : List Int))
def spec_PlainOf.e (r : ByteArray × Bool) : Res Ty D:=(.tu [.sc (.string r.1),.sc (.bool r.2)],[],[])
abbrev spec_PlainOf.g (rec : List Item → St Ty D → R) (k : Nat):=go1 Tryz.f66 (spec_PlainOf.ctx k) spec_PlainOf.sp 0 spec_PlainOf.en rec
theorem spec_PlainOf.t3 (rec : List Item → St Ty D → R) (k : Nat) (x0 : List S133) (x5 : Int) (h64 : List Int) : spec_PlainOf.g rec k (td Tryz.f66 3) (spec_PlainOf.s3 x0 x5 h64) =
 bif decide (x5 < (x0.length : Int)) then bif decide (0 ≤ x5) then bif decide (x5 < (x0.length : Int)) then bif decide (((rd_T133 x0 x5).f0) = 0) then (spec_l01In.f k (((rd_T133 x0 x5).f2).size : Int) 1 31).bind fun t1=>bif !t1 then some (spec_PlainOf.e ((⟨#[]⟩ : ByteArray),false)) else bif !decide (((rd_T133 x0 x5).f1) = 0) then some (spec_PlainOf.e ((⟨#[]⟩ : ByteArray),false)) else bif decide (h64.length + (bytesOf ((rd_T133 x0 x5).f2)).length ≤ 140737488355328) then bif decide (((h64 ++ (bytesOf ((rd_T133 x0 x5).f2))).length : Int) > 64) then some (spec_PlainOf.e ((⟨#[]⟩ : ByteArray),false)) else rec (td Tryz.f66 3) (spec_PlainOf.s3 x0 (w64 (x5 + 1)) (h64 ++ (bytesOf ((rd_T133 x0 x5).f2)))) else none else (spec_l01In.f k ((rd_T133 x0 x5).f0) 1 (h64.length : Int)).bind fun t2=>bif !t2 then some (spec_PlainOf.e ((⟨#[]⟩ : ByteArray),false)) else (spec_l01In.f k ((rd_T133 x0 x5).f1) 1 31).bind fun t3=>bif !t3 then some (spec_PlainOf.e ((⟨#[]⟩ : ByteArray),false)) else bif !(seq ((rd_T133 x0 x5).f2) (⟨#[]⟩ : ByteArray)) then some (spec_PlainOf.e ((⟨#[]⟩ : ByteArray),false)) else rec (td Tryz.f66 13) (spec_PlainOf.s13 x0 x5 0 ((rd_T133 x0 x5).f1) t3 (!t3) ((rd_T133 x0 x5).f2) (!(seq ((rd_T133 x0 x5).f2) (⟨#[]⟩ : ByteArray))) h64 ((rd_T133 x0 x5).f0) ((rd_T133 x0 x5).f1) ((rd_T133 x0 x5).f2)) else none else none else some (spec_PlainOf.e ((strOfNums h64),true)):=by kernel_rfl
theorem spec_PlainOf.t13 (rec : List Item → St Ty D → R) (k : Nat) (x0 : List S133) (x5 : Int) (x7 : Int) (x46 : Int) (x47 : Bool) (x48 : Bool) (x52 : ByteArray) (x53 : Bool) (h64 : List Int) (h65_0 : Int) (h65_1 : Int) (h65_2 : ByteArray) : spec_PlainOf.g rec k (td Tryz.f66 13) (spec_PlainOf.s13 x0 x5 x7 x46 x47 x48 x52 x53 h64 h65_0 h65_1 h65_2) =
 bif decide (x7 < h65_1) then bif decide (0 ≤ (w64 ((h64.length : Int) - h65_0))) then bif decide ((w64 ((h64.length : Int) - h65_0)) < (h64.length : Int)) then bif decide (h64.length + ([(rd_T5 h64 (w64 ((h64.length : Int) - h65_0)))] : List Int).length ≤ 140737488355328) then rec (td Tryz.f66 13) (spec_PlainOf.s13 x0 x5 (w64 (x7 + 1)) x46 x47 x48 x52 x53 (h64 ++ ([(rd_T5 h64 (w64 ((h64.length : Int) - h65_0)))] : List Int)) h65_0 h65_1 h65_2) else none else none else none else bif decide ((h64.length : Int) > 64) then some (spec_PlainOf.e ((⟨#[]⟩ : ByteArray),false)) else rec (td Tryz.f66 3) (spec_PlainOf.s3 x0 (w64 (x5 + 1)) h64):=by kernel_rfl
theorem spec_PlainOf.te (rec : List Item → St Ty D → R) (k : Nat) (a0 : List S133) : spec_PlainOf.g rec k [.code (body Tryz.f66)] (startSt [.row 0 .t133 a0] []) =
 rec (td Tryz.f66 3) (spec_PlainOf.s3 a0 0 ([] : List Int)):=by kernel_rfl
theorem spec_PlainOf.ok : ∀ k : Nat,(∀ (x0 : List S133) (x5 : Int) (h64 : List Int),goF Tryz.f66 spec_PlainOf.ctx spec_PlainOf.sp 0 spec_PlainOf.en k (td Tryz.f66 3) (spec_PlainOf.s3 x0 x5 h64) = (spec_PlainOf.c3 k x0 x5 h64).map spec_PlainOf.e) ∧ (∀ (x0 : List S133) (x5 : Int) (x7 : Int) (x46 : Int) (x47 : Bool) (x48 : Bool) (x52 : ByteArray) (x53 : Bool) (h64 : List Int) (h65_0 : Int) (h65_1 : Int) (h65_2 : ByteArray),goF Tryz.f66 spec_PlainOf.ctx spec_PlainOf.sp 0 spec_PlainOf.en k (td Tryz.f66 13) (spec_PlainOf.s13 x0 x5 x7 x46 x47 x48 x52 x53 h64 h65_0 h65_1 h65_2) = (spec_PlainOf.c13 k x0 x5 x7 x46 x47 x48 x52 x53 h64 h65_0 h65_1 h65_2).map spec_PlainOf.e)
 | 0=>⟨fun _ _ _=>rfl,fun _ _ _ _ _ _ _ _ _ _ _ _=>rfl⟩
 | k + 1=>by
  have ih:=spec_PlainOf.ok k;obtain ⟨i3,i13⟩:=ih;refine ⟨?_,?_⟩
  ·intro x0 x5 h64;rw [spec_PlainOf.c3];exact (spec_PlainOf.t3 _ k x0 x5 h64).trans (cd (cd (cd (cd (bn (fun t1=>(nb rfl (nd rfl (cd (cd rfl (i3 _ _ _)) rfl))))) (bn (fun t2=>(nb rfl (bn (fun t3=>(nb rfl (nb rfl (i13 _ _ _ _ _ _ _ _ _ _ _ _))))))))) rfl) rfl) rfl)
  intro x0 x5 x7 x46 x47 x48 x52 x53 h64 h65_0 h65_1 h65_2;rw [spec_PlainOf.c13];exact (spec_PlainOf.t13 _ k x0 x5 x7 x46 x47 x48 x52 x53 h64 h65_0 h65_1 h65_2).trans (cd (cd (cd (cd (i13 _ _ _ _ _ _ _ _ _ _ _ _) rfl) rfl) rfl) (cd rfl (i3 _ _ _)))
theorem spec_PlainOf.oke (k : Nat) (a0 : List S133) : goF Tryz.f66 spec_PlainOf.ctx spec_PlainOf.sp 0 spec_PlainOf.en (k + 1) [.code (body Tryz.f66)] (startSt [.row 0 .t133 a0] []) = (spec_PlainOf.f k a0).map spec_PlainOf.e:=by
 obtain ⟨i3,i13⟩:=spec_PlainOf.ok k;rw [spec_PlainOf.f];exact (spec_PlainOf.te _ k a0).trans (i3 _ _ _)
theorem spec_PlainOf.con (k : Nat) (a0 : List S133) (r) (h : spec_PlainOf.f k a0 = some r) : Contract Tryz.prog kit 66 [.row 0 .t133 a0] [] (spec_PlainOf.e r).1 (spec_PlainOf.e r).2.1 (spec_PlainOf.e r).2.2 :=
 con_okG kitOk mix (fun k=>(CtxOk.cons (spec_l01In.xok k) CtxOk.nil)) (spec_PlainOf.oke k a0) h (by kernel_rfl) (by kernel_rfl) (by kernel_rfl) rfl (by kernel_rfl) rfl rfl
def spec_PlainOf.x (k : Nat) : X:=fun ins bs κ=>match ins,bs with
 | [.row 0 .t133 a0],[]=>(spec_PlainOf.f k a0).bind fun r=>κ (spec_PlainOf.e r).1 (spec_PlainOf.e r).2.1 (spec_PlainOf.e r).2.2
 | _,_=>none
theorem spec_PlainOf.xok (k : Nat) : XOk 66 (spec_PlainOf.x k):=by
 intro ins bs κ res h;unfold spec_PlainOf.x at h
 split at h
 ·obtain ⟨r,hr,h⟩:=Option.bind_eq_some_iff.1 h;exact ⟨_,_,_,spec_PlainOf.con k _ r hr,h⟩
 cases h
end
end Go.Proofs.YtbbfkodckpfjcaaGreat.M2

namespace Go.Proofs.YtbbfkodckpfjcaaGreat.M2
open Go Go.Proofs.YtbbfkodckpfjcaaGreat.PK
set_option linter.unusedVariables false
set_option linter.unusedSimpArgs false
set_option maxHeartbeats 4000000
set_option maxRecDepth 100000
noncomputable section
def spec_l04Match.sp : Nat → Option (Spec Ty):=fun r=>bif Nat.beq r 2 then some ⟨[(0,.keep),(1,.keep),(2,.keep),(7,.keep)],[]⟩ else none
def spec_l04Match.en : Option (Spec Ty):=none
def spec_l04Match.s2 (x0 : ByteArray) (x1 : Int) (x2 : Int) (x7 : Int) : St Ty D:=⟨(Env.put (Env.put (Env.put (Env.put E (some 0) (.sc (.string x0))) (some 1) (.sc (.int .i64 x1))) (some 2) (.sc (.int .i64 x2))) (some 7) (.sc (.int .i64 x7))),H0,1000⟩
def spec_l04Match.ctx (k : Nat) : Ctx Ty D:=(fun _ _ _ _=>none)
def spec_l04Match.c2 : Nat → ByteArray → Int → Int → Int → Option (Int)
 | 0,_,_,_,_=>none
 | k + 1,x0,x1,x2,x7=>(if x7 < 31 then (if (w64 (x2 + x7)) < (x0.size : Int) then (if 0 ≤ (w64 (x1 + x7)) then (if (w64 (x1 + x7)) < (x0.size : Int) then (if 0 ≤ (w64 (x2 + x7)) then (if (w64 (x2 + x7)) < (x0.size : Int) then (if (bt x0 (w64 (x1 + x7))) = (bt x0 (w64 (x2 + x7))) then (spec_l04Match.c2 k x0 x1 x2 (w64 (x7 + 1))) else (some (x7))) else none) else none) else none) else none) else (some (x7))) else (some (x7)))
def spec_l04Match.f (k : Nat) (a0 : ByteArray) (a1 : Int) (a2 : Int) : Option (Int):=(spec_l04Match.c2 k a0 a1 a2 0)
def spec_l04Match.e (r : Int) : Res Ty D:=(.sc (.int .i64 r),[],[])
abbrev spec_l04Match.g (rec : List Item → St Ty D → R) (k : Nat):=go1 Tryz.f99 (spec_l04Match.ctx k) spec_l04Match.sp 0 spec_l04Match.en rec
theorem spec_l04Match.t2 (rec : List Item → St Ty D → R) (k : Nat) (x0 : ByteArray) (x1 : Int) (x2 : Int) (x7 : Int) : spec_l04Match.g rec k (td Tryz.f99 2) (spec_l04Match.s2 x0 x1 x2 x7) =
 bif decide (x7 < 31) then bif decide ((w64 (x2 + x7)) < (x0.size : Int)) then bif decide (0 ≤ (w64 (x1 + x7))) then bif decide ((w64 (x1 + x7)) < (x0.size : Int)) then bif decide (0 ≤ (w64 (x2 + x7))) then bif decide ((w64 (x2 + x7)) < (x0.size : Int)) then bif decide ((bt x0 (w64 (x1 + x7))) = (bt x0 (w64 (x2 + x7)))) then rec (td Tryz.f99 2) (spec_l04Match.s2 x0 x1 x2 (w64 (x7 + 1))) else some (spec_l04Match.e (x7)) else none else none else none else none else some (spec_l04Match.e (x7)) else some (spec_l04Match.e (x7)):=by kernel_rfl
theorem spec_l04Match.te (rec : List Item → St Ty D → R) (k : Nat) (a0 : ByteArray) (a1 : Int) (a2 : Int) : spec_l04Match.g rec k [.code (body Tryz.f99)] (startSt [.sc (.string a0),.sc (.int .i64 a1),.sc (.int .i64 a2)] []) =
 rec (td Tryz.f99 2) (spec_l04Match.s2 a0 a1 a2 0):=by kernel_rfl
theorem spec_l04Match.ok : ∀ k : Nat,(∀ (x0 : ByteArray) (x1 : Int) (x2 : Int) (x7 : Int),goF Tryz.f99 spec_l04Match.ctx spec_l04Match.sp 0 spec_l04Match.en k (td Tryz.f99 2) (spec_l04Match.s2 x0 x1 x2 x7) = (spec_l04Match.c2 k x0 x1 x2 x7).map spec_l04Match.e)
 | 0=>fun _ _ _ _=>rfl
 | k + 1=>by
  have ih:=spec_l04Match.ok k;have i2:=ih;intro x0 x1 x2 x7;rw [spec_l04Match.c2];exact (spec_l04Match.t2 _ k x0 x1 x2 x7).trans (cd (cd (cd (cd (cd (cd (cd (i2 _ _ _ _) rfl) rfl) rfl) rfl) rfl) rfl) rfl)
theorem spec_l04Match.oke (k : Nat) (a0 : ByteArray) (a1 : Int) (a2 : Int) : goF Tryz.f99 spec_l04Match.ctx spec_l04Match.sp 0 spec_l04Match.en (k + 1) [.code (body Tryz.f99)] (startSt [.sc (.string a0),.sc (.int .i64 a1),.sc (.int .i64 a2)] []) = (spec_l04Match.f k a0 a1 a2).map spec_l04Match.e:=by
 have i2:=spec_l04Match.ok k;rw [spec_l04Match.f];exact (spec_l04Match.te _ k a0 a1 a2).trans (i2 _ _ _ _)
theorem spec_l04Match.con (k : Nat) (a0 : ByteArray) (a1 : Int) (a2 : Int) (r) (h : spec_l04Match.f k a0 a1 a2 = some r) : Contract Tryz.prog kit 99 [.sc (.string a0),.sc (.int .i64 a1),.sc (.int .i64 a2)] [] (spec_l04Match.e r).1 (spec_l04Match.e r).2.1 (spec_l04Match.e r).2.2 :=
 con_okG kitOk mix (fun k=>CtxOk.nil) (spec_l04Match.oke k a0 a1 a2) h (by kernel_rfl) (by kernel_rfl) (by kernel_rfl) rfl (by kernel_rfl) rfl rfl
def spec_l04Match.x (k : Nat) : X:=fun ins bs κ=>match ins,bs with
 | [.sc (.string a0),.sc (.int .i64 a1),.sc (.int .i64 a2)],[]=>(spec_l04Match.f k a0 a1 a2).bind fun r=>κ (spec_l04Match.e r).1 (spec_l04Match.e r).2.1 (spec_l04Match.e r).2.2
 | _,_=>none
theorem spec_l04Match.xok (k : Nat) : XOk 99 (spec_l04Match.x k):=by
 intro ins bs κ res h;unfold spec_l04Match.x at h
 split at h
 ·obtain ⟨r,hr,h⟩:=Option.bind_eq_some_iff.1 h;exact ⟨_,_,_,spec_l04Match.con k _ _ _ r hr,h⟩
 cases h
def spec_TokensOf.sp : Nat → Option (Spec Ty):=fun r=>bif Nat.beq r 5 then some ⟨[(0,.keep),(3,.own .t133),(4,.keep)],[]⟩ else bif Nat.beq r 9 then some ⟨[(0,.keep),(3,.own .t133),(4,.keep),(5,.keep),(6,.keep),(7,.keep)],[]⟩ else none
def spec_TokensOf.en : Option (Spec Ty):=some ⟨[(2,.own .t133)],[]⟩
def spec_TokensOf.s5 (x0 : ByteArray) (x4 : Int) (h64 : List S133) : St Ty D:=⟨(Env.put (Env.put (Env.put E (some 0) (.sc (.string x0))) (some 3) (.sl 64 none)) (some 4) (.sc (.int .i64 x4))),Heap.put H0 [(64,some (.rowb .t133 h64 0))],1000⟩
def spec_TokensOf.s9 (x0 : ByteArray) (x4 : Int) (x5 : Int) (x6 : Int) (x7 : Int) (h64 : List S133) : St Ty D:=⟨(Env.put (Env.put (Env.put (Env.put (Env.put (Env.put E (some 0) (.sc (.string x0))) (some 3) (.sl 64 none)) (some 4) (.sc (.int .i64 x4))) (some 5) (.sc (.int .i64 x5))) (some 6) (.sc (.int .i64 x6))) (some 7) (.sc (.int .i64 x7))),Heap.put H0 [(64,some (.rowb .t133 h64 0))],1000⟩
def spec_TokensOf.ctx (k : Nat) : Ctx Ty D:=(cons 99 (spec_l04Match.x k) (fun _ _ _ _=>none))
mutual
def spec_TokensOf.c5 : Nat → ByteArray → Int → (List S133) → Option ((List S133))
 | 0,_,_,_=>none
 | k + 1,x0,x4,h64=>(if x4 < (x0.size : Int) then (spec_TokensOf.c9 k x0 x4 0 0 (w64 (x4 - 1)) h64) else (some (h64)))
def spec_TokensOf.c9 : Nat → ByteArray → Int → Int → Int → Int → (List S133) → Option ((List S133))
 | 0,_,_,_,_,_,_=>none
 | k + 1,x0,x4,x5,x6,x7,h64=>(if x7 ≥ 0 then ((spec_l04Match.f k x0 x7 x4).bind fun t1=>(if t1 ≥ 4 then (if t1 > x5 then (spec_TokensOf.c9 k x0 x4 t1 (w64 (x4 - x7)) (w64 (x7 - 1)) h64) else (spec_TokensOf.c9 k x0 x4 x5 x6 (w64 (x7 - 1)) h64)) else (spec_TokensOf.c9 k x0 x4 x5 x6 (w64 (x7 - 1)) h64))) else (if x5 > 0 then (if h64.length + ([(S133.mk x6 x5 (⟨#[]⟩ : ByteArray))] : List S133).length ≤ 4398046511104 then (spec_TokensOf.c5 k x0 (w64 (x4 + x5)) (h64 ++ ([(S133.mk x6 x5 (⟨#[]⟩ : ByteArray))] : List S133))) else none) else (if (w64 ((h64.length : Int) - 1)) ≥ 0 then (if 0 ≤ (w64 ((h64.length : Int) - 1)) then (if (w64 ((h64.length : Int) - 1)) < (h64.length : Int) then (if ((rd_T133 h64 (w64 ((h64.length : Int) - 1))).f0) = 0 then (if 0 ≤ (w64 ((h64.length : Int) - 1)) then (if (w64 ((h64.length : Int) - 1)) < (h64.length : Int) then (if (((rd_T133 h64 (w64 ((h64.length : Int) - 1))).f2).size : Int) < 31 then (if 0 ≤ (w64 ((h64.length : Int) - 1)) then (if (w64 ((h64.length : Int) - 1)) < (h64.length : Int) then (if 0 ≤ (w64 (x4 + 1)) then (if (w64 (x4 + 1)) ≤ (x0.size : Int) then (if 0 ≤ x4 then (if x4 ≤ (w64 (x4 + 1)) then (if ((rd_T133 h64 (w64 ((h64.length : Int) - 1))).f2).size + (x0.extract x4.toNat ((w64 (x4 + 1)).toNat)).size ≤ 9223372036854775807 then (if 0 ≤ (w64 ((h64.length : Int) - 1)) then (if (w64 ((h64.length : Int) - 1)) < (h64.length : Int) then (spec_TokensOf.c5 k x0 (w64 (x4 + 1)) (h64.set ((w64 ((h64.length : Int) - 1)).toNat) (S133.mk ((rd_T133 h64 (w64 ((h64.length : Int) - 1))).f0) ((rd_T133 h64 (w64 ((h64.length : Int) - 1))).f1) (((rd_T133 h64 (w64 ((h64.length : Int) - 1))).f2) ++ (x0.extract x4.toNat ((w64 (x4 + 1)).toNat)))))) else none) else none) else none) else none) else none) else none) else none) else none) else none) else (if 0 ≤ (w64 (x4 + 1)) then (if (w64 (x4 + 1)) ≤ (x0.size : Int) then (if 0 ≤ x4 then (if x4 ≤ (w64 (x4 + 1)) then (if h64.length + ([(S133.mk 0 0 (x0.extract x4.toNat ((w64 (x4 + 1)).toNat)))] : List S133).length ≤ 4398046511104 then (spec_TokensOf.c5 k x0 (w64 (x4 + 1)) (h64 ++ ([(S133.mk 0 0 (x0.extract x4.toNat ((w64 (x4 + 1)).toNat)))] : List S133))) else none) else none) else none) else none) else none)) else none) else none) else (if 0 ≤ (w64 (x4 + 1)) then (if (w64 (x4 + 1)) ≤ (x0.size : Int) then (if 0 ≤ x4 then (if x4 ≤ (w64 (x4 + 1)) then (if h64.length + ([(S133.mk 0 0 (x0.extract x4.toNat ((w64 (x4 + 1)).toNat)))] : List S133).length ≤ 4398046511104 then (spec_TokensOf.c5 k x0 (w64 (x4 + 1)) (h64 ++ ([(S133.mk 0 0 (x0.extract x4.toNat ((w64 (x4 + 1)).toNat)))] : List S133))) else none) else none) else none) else none) else none)) else none) else none) else (if 0 ≤ (w64 (x4 + 1)) then (if (w64 (x4 + 1)) ≤ (x0.size : Int) then (if 0 ≤ x4 then (if x4 ≤ (w64 (x4 + 1)) then (if h64.length + ([(S133.mk 0 0 (x0.extract x4.toNat ((w64 (x4 + 1)).toNat)))] : List S133).length ≤ 4398046511104 then (spec_TokensOf.c5 k x0 (w64 (x4 + 1)) (h64 ++ ([(S133.mk 0 0 (x0.extract x4.toNat ((w64 (x4 + 1)).toNat)))] : List S133))) else none) else none) else none) else none) else none))))
end
def spec_TokensOf.f (k : Nat) (a0 : ByteArray) : Option ((List S133)):=(if (a0.size : Int) > 64 then (some (([] : List S133))) else (spec_TokensOf.c5 k a0 0 ([] : List S133)))
def spec_TokensOf.e (r : (List S133)) : Res Ty D:=(.sl 0 none,[],[.rowb .t133 r 0])
abbrev spec_TokensOf.g (rec : List Item → St Ty D → R) (k : Nat):=go1 Tryz.f85 (spec_TokensOf.ctx k) spec_TokensOf.sp 0 spec_TokensOf.en rec
theorem spec_TokensOf.t5 (rec : List Item → St Ty D → R) (k : Nat) (x0 : ByteArray) (x4 : Int) (h64 : List S133) : spec_TokensOf.g rec k (td Tryz.f85 5) (spec_TokensOf.s5 x0 x4 h64) =
 bif decide (x4 < (x0.size : Int)) then rec (td Tryz.f85 9) (spec_TokensOf.s9 x0 x4 0 0 (w64 (x4 - 1)) h64) else some (spec_TokensOf.e (h64)):=by kernel_rfl
theorem spec_TokensOf.t9 (rec : List Item → St Ty D → R) (k : Nat) (x0 : ByteArray) (x4 : Int) (x5 : Int) (x6 : Int) (x7 : Int) (h64 : List S133) : spec_TokensOf.g rec k (td Tryz.f85 9) (spec_TokensOf.s9 x0 x4 x5 x6 x7 h64) =
 bif decide (x7 ≥ 0) then (spec_l04Match.f k x0 x7 x4).bind fun t1=>bif decide (t1 ≥ 4) then bif decide (t1 > x5) then rec (td Tryz.f85 9) (spec_TokensOf.s9 x0 x4 t1 (w64 (x4 - x7)) (w64 (x7 - 1)) h64) else rec (td Tryz.f85 9) (spec_TokensOf.s9 x0 x4 x5 x6 (w64 (x7 - 1)) h64) else rec (td Tryz.f85 9) (spec_TokensOf.s9 x0 x4 x5 x6 (w64 (x7 - 1)) h64) else bif decide (x5 > 0) then bif decide (h64.length + ([(S133.mk x6 x5 (⟨#[]⟩ : ByteArray))] : List S133).length ≤ 4398046511104) then rec (td Tryz.f85 5) (spec_TokensOf.s5 x0 (w64 (x4 + x5)) (h64 ++ ([(S133.mk x6 x5 (⟨#[]⟩ : ByteArray))] : List S133))) else none else bif decide ((w64 ((h64.length : Int) - 1)) ≥ 0) then bif decide (0 ≤ (w64 ((h64.length : Int) - 1))) then bif decide ((w64 ((h64.length : Int) - 1)) < (h64.length : Int)) then bif decide (((rd_T133 h64 (w64 ((h64.length : Int) - 1))).f0) = 0) then bif decide (0 ≤ (w64 ((h64.length : Int) - 1))) then bif decide ((w64 ((h64.length : Int) - 1)) < (h64.length : Int)) then bif decide ((((rd_T133 h64 (w64 ((h64.length : Int) - 1))).f2).size : Int) < 31) then bif decide (0 ≤ (w64 ((h64.length : Int) - 1))) then bif decide ((w64 ((h64.length : Int) - 1)) < (h64.length : Int)) then bif decide (0 ≤ (w64 (x4 + 1))) then bif decide ((w64 (x4 + 1)) ≤ (x0.size : Int)) then bif decide (0 ≤ x4) then bif decide (x4 ≤ (w64 (x4 + 1))) then bif decide (((rd_T133 h64 (w64 ((h64.length : Int) - 1))).f2).size + (x0.extract x4.toNat ((w64 (x4 + 1)).toNat)).size ≤ 9223372036854775807) then bif decide (0 ≤ (w64 ((h64.length : Int) - 1))) then bif decide ((w64 ((h64.length : Int) - 1)) < (h64.length : Int)) then rec (td Tryz.f85 5) (spec_TokensOf.s5 x0 (w64 (x4 + 1)) (h64.set ((w64 ((h64.length : Int) - 1)).toNat) (S133.mk ((rd_T133 h64 (w64 ((h64.length : Int) - 1))).f0) ((rd_T133 h64 (w64 ((h64.length : Int) - 1))).f1) (((rd_T133 h64 (w64 ((h64.length : Int) - 1))).f2) ++ (x0.extract x4.toNat ((w64 (x4 + 1)).toNat)))))) else none else none else none else none else none else none else none else none else none else bif decide (0 ≤ (w64 (x4 + 1))) then bif decide ((w64 (x4 + 1)) ≤ (x0.size : Int)) then bif decide (0 ≤ x4) then bif decide (x4 ≤ (w64 (x4 + 1))) then bif decide (h64.length + ([(S133.mk 0 0 (x0.extract x4.toNat ((w64 (x4 + 1)).toNat)))] : List S133).length ≤ 4398046511104) then rec (td Tryz.f85 5) (spec_TokensOf.s5 x0 (w64 (x4 + 1)) (h64 ++ ([(S133.mk 0 0 (x0.extract x4.toNat ((w64 (x4 + 1)).toNat)))] : List S133))) else none else none else none else none else none else none else none else bif decide (0 ≤ (w64 (x4 + 1))) then bif decide ((w64 (x4 + 1)) ≤ (x0.size : Int)) then bif decide (0 ≤ x4) then bif decide (x4 ≤ (w64 (x4 + 1))) then bif decide (h64.length + ([(S133.mk 0 0 (x0.extract x4.toNat ((w64 (x4 + 1)).toNat)))] : List S133).length ≤ 4398046511104) then rec (td Tryz.f85 5) (spec_TokensOf.s5 x0 (w64 (x4 + 1)) (h64 ++ ([(S133.mk 0 0 (x0.extract x4.toNat ((w64 (x4 + 1)).toNat)))] : List S133))) else none else none else none else none else none else none else none else bif decide (0 ≤ (w64 (x4 + 1))) then bif decide ((w64 (x4 + 1)) ≤ (x0.size : Int)) then bif decide (0 ≤ x4) then bif decide (x4 ≤ (w64 (x4 + 1))) then bif decide (h64.length + ([(S133.mk 0 0 (x0.extract x4.toNat ((w64 (x4 + 1)).toNat)))] : List S133).length ≤ 4398046511104) then rec (td Tryz.f85 5) (spec_TokensOf.s5 x0 (w64 (x4 + 1)) (h64 ++ ([(S133.mk 0 0 (x0.extract x4.toNat ((w64 (x4 + 1)).toNat)))] : List S133))) else none else none else none else none else none:=by kernel_rfl
theorem spec_TokensOf.te (rec : List Item → St Ty D → R) (k : Nat) (a0 : ByteArray) : spec_TokensOf.g rec k [.code (body Tryz.f85)] (startSt [.sc (.string a0)] []) =
 bif decide ((a0.size : Int) > 64) then some (spec_TokensOf.e (([] : List S133))) else rec (td Tryz.f85 5) (spec_TokensOf.s5 a0 0 ([] : List S133)):=by kernel_rfl
theorem spec_TokensOf.ok : ∀ k : Nat,(∀ (x0 : ByteArray) (x4 : Int) (h64 : List S133),goF Tryz.f85 spec_TokensOf.ctx spec_TokensOf.sp 0 spec_TokensOf.en k (td Tryz.f85 5) (spec_TokensOf.s5 x0 x4 h64) = (spec_TokensOf.c5 k x0 x4 h64).map spec_TokensOf.e) ∧ (∀ (x0 : ByteArray) (x4 : Int) (x5 : Int) (x6 : Int) (x7 : Int) (h64 : List S133),goF Tryz.f85 spec_TokensOf.ctx spec_TokensOf.sp 0 spec_TokensOf.en k (td Tryz.f85 9) (spec_TokensOf.s9 x0 x4 x5 x6 x7 h64) = (spec_TokensOf.c9 k x0 x4 x5 x6 x7 h64).map spec_TokensOf.e)
 | 0=>⟨fun _ _ _=>rfl,fun _ _ _ _ _ _=>rfl⟩
 | k + 1=>by
  have ih:=spec_TokensOf.ok k;obtain ⟨i5,i9⟩:=ih;refine ⟨?_,?_⟩
  ·intro x0 x4 h64;rw [spec_TokensOf.c5];exact (spec_TokensOf.t5 _ k x0 x4 h64).trans (cd (i9 _ _ _ _ _ _) rfl)
  intro x0 x4 x5 x6 x7 h64;rw [spec_TokensOf.c9];exact (spec_TokensOf.t9 _ k x0 x4 x5 x6 x7 h64).trans (cd (bn (fun t1=>(cd (cd (i9 _ _ _ _ _ _) (i9 _ _ _ _ _ _)) (i9 _ _ _ _ _ _)))) (cd (cd (i5 _ _ _) rfl) (cd (cd (cd (cd (cd (cd (cd (cd (cd (cd (cd (cd (cd (cd (cd (cd (i5 _ _ _) rfl) rfl) rfl) rfl) rfl) rfl) rfl) rfl) rfl) (cd (cd (cd (cd (cd (i5 _ _ _) rfl) rfl) rfl) rfl) rfl)) rfl) rfl) (cd (cd (cd (cd (cd (i5 _ _ _) rfl) rfl) rfl) rfl) rfl)) rfl) rfl) (cd (cd (cd (cd (cd (i5 _ _ _) rfl) rfl) rfl) rfl) rfl))))
theorem spec_TokensOf.oke (k : Nat) (a0 : ByteArray) : goF Tryz.f85 spec_TokensOf.ctx spec_TokensOf.sp 0 spec_TokensOf.en (k + 1) [.code (body Tryz.f85)] (startSt [.sc (.string a0)] []) = (spec_TokensOf.f k a0).map spec_TokensOf.e:=by
 obtain ⟨i5,i9⟩:=spec_TokensOf.ok k;rw [spec_TokensOf.f];exact (spec_TokensOf.te _ k a0).trans (cd rfl (i5 _ _ _))
theorem spec_TokensOf.con (k : Nat) (a0 : ByteArray) (r) (h : spec_TokensOf.f k a0 = some r) : Contract Tryz.prog kit 85 [.sc (.string a0)] [] (spec_TokensOf.e r).1 (spec_TokensOf.e r).2.1 (spec_TokensOf.e r).2.2 :=
 con_okG kitOk mix (fun k=>(CtxOk.cons (spec_l04Match.xok k) CtxOk.nil)) (spec_TokensOf.oke k a0) h (by kernel_rfl) (by kernel_rfl) (by kernel_rfl) rfl (by kernel_rfl) rfl rfl
def spec_TokensOf.x (k : Nat) : X:=fun ins bs κ=>match ins,bs with
 | [.sc (.string a0)],[]=>(spec_TokensOf.f k a0).bind fun r=>κ (spec_TokensOf.e r).1 (spec_TokensOf.e r).2.1 (spec_TokensOf.e r).2.2
 | _,_=>none
theorem spec_TokensOf.xok (k : Nat) : XOk 85 (spec_TokensOf.x k):=by
 intro ins bs κ res h;unfold spec_TokensOf.x at h
 split at h
 ·obtain ⟨r,hr,h⟩:=Option.bind_eq_some_iff.1 h;exact ⟨_,_,_,spec_TokensOf.con k _ r hr,h⟩
 cases h
def spec_PackText.sp : Nat → Option (Spec Ty):=fun r=>bif Nat.beq r 6 then some ⟨[(0,.keep),(4,.own .t133),(5,.keep),(6,.keep)],[]⟩ else none
def spec_PackText.en : Option (Spec Ty):=none
def spec_PackText.s6 (x0 : ByteArray) (x5 : ByteArray) (x6 : Int) (h64 : List S133) : St Ty D:=⟨(Env.put (Env.put (Env.put (Env.put E (some 0) (.sc (.string x0))) (some 4) (.sl 64 none)) (some 5) (.sc (.string x5))) (some 6) (.sc (.int .i64 x6))),Heap.put H0 [(64,some (.rowb .t133 h64 0))],1000⟩
def spec_PackText.ctx (k : Nat) : Ctx Ty D:=(cons 85 (spec_TokensOf.x k) (fun _ _ _ _=>none))
def spec_PackText.c6 : Nat → ByteArray → ByteArray → Int → (List S133) → Option (ByteArray × Bool)
 | 0,_,_,_,_=>none
 | k + 1,x0,x5,x6,h64=>(if x6 < (h64.length : Int) then (if 0 ≤ x6 then (if x6 < (h64.length : Int) then (if ((rd_T133 h64 x6).f0) = 0 then (if x5.size + (strOfNums ([(Go.IntKind.wrap .u8 ((((rd_T133 h64 x6).f2).size : Int)))] : List Int)).size ≤ 9223372036854775807 then (if (x5 ++ (strOfNums ([(Go.IntKind.wrap .u8 ((((rd_T133 h64 x6).f2).size : Int)))] : List Int))).size + ((rd_T133 h64 x6).f2).size ≤ 9223372036854775807 then (spec_PackText.c6 k x0 ((x5 ++ (strOfNums ([(Go.IntKind.wrap .u8 ((((rd_T133 h64 x6).f2).size : Int)))] : List Int))) ++ ((rd_T133 h64 x6).f2)) (w64 (x6 + 1)) h64) else none) else none) else (if x5.size + (strOfNums ([(Go.IntKind.wrap .u8 ((w64 (128 + ((rd_T133 h64 x6).f1))))),(Go.IntKind.wrap .u8 ((rd_T133 h64 x6).f0))] : List Int)).size ≤ 9223372036854775807 then (spec_PackText.c6 k x0 (x5 ++ (strOfNums ([(Go.IntKind.wrap .u8 ((w64 (128 + ((rd_T133 h64 x6).f1))))),(Go.IntKind.wrap .u8 ((rd_T133 h64 x6).f0))] : List Int))) (w64 (x6 + 1)) h64) else none)) else none) else none) else (if (w64 ((x0.size : Int) + 1)) ≤ (x5.size : Int) then (if (⟨#[114]⟩ : ByteArray).size + x0.size ≤ 9223372036854775807 then (some (((⟨#[114]⟩ : ByteArray) ++ x0),true)) else none) else (some (x5,true))))
def spec_PackText.f (k : Nat) (a0 : ByteArray) : Option (ByteArray × Bool):=(if (a0.size : Int) > 64 then (some ((⟨#[]⟩ : ByteArray),false)) else ((spec_TokensOf.f k a0).bind fun t1=>(spec_PackText.c6 k a0 (⟨#[122]⟩ : ByteArray) 0 t1)))
def spec_PackText.e (r : ByteArray × Bool) : Res Ty D:=(.tu [.sc (.string r.1),.sc (.bool r.2)],[],[])
abbrev spec_PackText.g (rec : List Item → St Ty D → R) (k : Nat):=go1 Tryz.f67 (spec_PackText.ctx k) spec_PackText.sp 0 spec_PackText.en rec
theorem spec_PackText.t6 (rec : List Item → St Ty D → R) (k : Nat) (x0 : ByteArray) (x5 : ByteArray) (x6 : Int) (h64 : List S133) : spec_PackText.g rec k (td Tryz.f67 6) (spec_PackText.s6 x0 x5 x6 h64) =
 bif decide (x6 < (h64.length : Int)) then bif decide (0 ≤ x6) then bif decide (x6 < (h64.length : Int)) then bif decide (((rd_T133 h64 x6).f0) = 0) then bif decide (x5.size + (strOfNums ([(Go.IntKind.wrap .u8 ((((rd_T133 h64 x6).f2).size : Int)))] : List Int)).size ≤ 9223372036854775807) then bif decide ((x5 ++ (strOfNums ([(Go.IntKind.wrap .u8 ((((rd_T133 h64 x6).f2).size : Int)))] : List Int))).size + ((rd_T133 h64 x6).f2).size ≤ 9223372036854775807) then rec (td Tryz.f67 6) (spec_PackText.s6 x0 ((x5 ++ (strOfNums ([(Go.IntKind.wrap .u8 ((((rd_T133 h64 x6).f2).size : Int)))] : List Int))) ++ ((rd_T133 h64 x6).f2)) (w64 (x6 + 1)) h64) else none else none else bif decide (x5.size + (strOfNums ([(Go.IntKind.wrap .u8 ((w64 (128 + ((rd_T133 h64 x6).f1))))),(Go.IntKind.wrap .u8 ((rd_T133 h64 x6).f0))] : List Int)).size ≤ 9223372036854775807) then rec (td Tryz.f67 6) (spec_PackText.s6 x0 (x5 ++ (strOfNums ([(Go.IntKind.wrap .u8 ((w64 (128 + ((rd_T133 h64 x6).f1))))),(Go.IntKind.wrap .u8 ((rd_T133 h64 x6).f0))] : List Int))) (w64 (x6 + 1)) h64) else none else none else none else bif decide ((w64 ((x0.size : Int) + 1)) ≤ (x5.size : Int)) then bif decide ((⟨#[114]⟩ : ByteArray).size + x0.size ≤ 9223372036854775807) then some (spec_PackText.e (((⟨#[114]⟩ : ByteArray) ++ x0),true)) else none else some (spec_PackText.e (x5,true)):=by kernel_rfl
theorem spec_PackText.te (rec : List Item → St Ty D → R) (k : Nat) (a0 : ByteArray) : spec_PackText.g rec k [.code (body Tryz.f67)] (startSt [.sc (.string a0)] []) =
 bif decide ((a0.size : Int) > 64) then some (spec_PackText.e ((⟨#[]⟩ : ByteArray),false)) else (spec_TokensOf.f k a0).bind fun t1=>rec (td Tryz.f67 6) (spec_PackText.s6 a0 (⟨#[122]⟩ : ByteArray) 0 t1):=by kernel_rfl
theorem spec_PackText.ok : ∀ k : Nat,(∀ (x0 : ByteArray) (x5 : ByteArray) (x6 : Int) (h64 : List S133),goF Tryz.f67 spec_PackText.ctx spec_PackText.sp 0 spec_PackText.en k (td Tryz.f67 6) (spec_PackText.s6 x0 x5 x6 h64) = (spec_PackText.c6 k x0 x5 x6 h64).map spec_PackText.e)
 | 0=>fun _ _ _ _=>rfl
 | k + 1=>by
  have ih:=spec_PackText.ok k;have i6:=ih;intro x0 x5 x6 h64;rw [spec_PackText.c6];exact (spec_PackText.t6 _ k x0 x5 x6 h64).trans (cd (cd (cd (cd (cd (cd (i6 _ _ _ _) rfl) rfl) (cd (i6 _ _ _ _) rfl)) rfl) rfl) (cd (cd rfl rfl) rfl))
theorem spec_PackText.oke (k : Nat) (a0 : ByteArray) : goF Tryz.f67 spec_PackText.ctx spec_PackText.sp 0 spec_PackText.en (k + 1) [.code (body Tryz.f67)] (startSt [.sc (.string a0)] []) = (spec_PackText.f k a0).map spec_PackText.e:=by
 have i6:=spec_PackText.ok k;rw [spec_PackText.f];exact (spec_PackText.te _ k a0).trans (cd rfl (bn (fun t1=>(i6 _ _ _ _))))
theorem spec_PackText.con (k : Nat) (a0 : ByteArray) (r) (h : spec_PackText.f k a0 = some r) : Contract Tryz.prog kit 67 [.sc (.string a0)] [] (spec_PackText.e r).1 (spec_PackText.e r).2.1 (spec_PackText.e r).2.2 :=
 con_okG kitOk mix (fun k=>(CtxOk.cons (spec_TokensOf.xok k) CtxOk.nil)) (spec_PackText.oke k a0) h (by kernel_rfl) (by kernel_rfl) (by kernel_rfl) rfl (by kernel_rfl) rfl rfl
def spec_PackText.x (k : Nat) : X:=fun ins bs κ=>match ins,bs with
 | [.sc (.string a0)],[]=>(spec_PackText.f k a0).bind fun r=>κ (spec_PackText.e r).1 (spec_PackText.e r).2.1 (spec_PackText.e r).2.2
 | _,_=>none
theorem spec_PackText.xok (k : Nat) : XOk 67 (spec_PackText.x k):=by
 intro ins bs κ res h;unfold spec_PackText.x at h
 split at h
 ·obtain ⟨r,hr,h⟩:=Option.bind_eq_some_iff.1 h;exact ⟨_,_,_,spec_PackText.con k _ r hr,h⟩
 cases h
def spec_UnpackText.sp : Nat → Option (Spec Ty):=fun r=>none
def spec_UnpackText.en : Option (Spec Ty):=none
def spec_UnpackText.ctx (k : Nat) : Ctx Ty D:=(cons 65 (spec_l04Tokens.x k) (cons 66 (spec_PlainOf.x k) (cons 67 (spec_PackText.x k) (fun _ _ _ _=>none))))
def spec_UnpackText.f (k : Nat) (a0 : ByteArray) : Option (ByteArray × Bool):=(if (a0.size : Int) = 0 then (some ((⟨#[]⟩ : ByteArray),false)) else (if 1 ≤ (a0.size : Int) then (if 0 < (a0.size : Int) then (if (bt a0 0) = 122 then (if 1 ≤ (a0.size : Int) then ((spec_l04Tokens.f k (a0.extract 1 a0.size)).bind fun t1=>((spec_PlainOf.f k t1.1).bind fun t2=>(if t1.2 = true then (if t2.2 = true then ((spec_PackText.f k t2.1).bind fun t3=>(if t3.2 = true then (if (seq t3.1 a0) = true then (some (t2.1,true)) else (some ((⟨#[]⟩ : ByteArray),false))) else (some ((⟨#[]⟩ : ByteArray),false)))) else (some ((⟨#[]⟩ : ByteArray),false))) else (some ((⟨#[]⟩ : ByteArray),false))))) else none) else ((spec_PackText.f k (a0.extract 1 a0.size)).bind fun t4=>(if t4.2 = true then (if (seq t4.1 a0) = true then (some ((a0.extract 1 a0.size),true)) else (some ((⟨#[]⟩ : ByteArray),false))) else (some ((⟨#[]⟩ : ByteArray),false))))) else none) else none))
def spec_UnpackText.e (r : ByteArray × Bool) : Res Ty D:=(.tu [.sc (.string r.1),.sc (.bool r.2)],[],[])
abbrev spec_UnpackText.g (rec : List Item → St Ty D → R) (k : Nat):=go1 Tryz.f41 (spec_UnpackText.ctx k) spec_UnpackText.sp 0 spec_UnpackText.en rec
theorem spec_UnpackText.te (rec : List Item → St Ty D → R) (k : Nat) (a0 : ByteArray) : spec_UnpackText.g rec k [.code (body Tryz.f41)] (startSt [.sc (.string a0)] []) =
 bif decide ((a0.size : Int) = 0) then some (spec_UnpackText.e ((⟨#[]⟩ : ByteArray),false)) else bif decide (1 ≤ (a0.size : Int)) then bif decide (0 < (a0.size : Int)) then bif decide ((bt a0 0) = 122) then bif decide (1 ≤ (a0.size : Int)) then (spec_l04Tokens.f k (a0.extract 1 a0.size)).bind fun t1=>(spec_PlainOf.f k t1.1).bind fun t2=>bif !t1.2 then some (spec_UnpackText.e ((⟨#[]⟩ : ByteArray),false)) else bif !t2.2 then some (spec_UnpackText.e ((⟨#[]⟩ : ByteArray),false)) else (spec_PackText.f k t2.1).bind fun t3=>bif !t3.2 then some (spec_UnpackText.e ((⟨#[]⟩ : ByteArray),false)) else bif !(seq t3.1 a0) then some (spec_UnpackText.e ((⟨#[]⟩ : ByteArray),false)) else some (spec_UnpackText.e (t2.1,true)) else none else (spec_PackText.f k (a0.extract 1 a0.size)).bind fun t4=>bif !t4.2 then some (spec_UnpackText.e ((⟨#[]⟩ : ByteArray),false)) else bif !(seq t4.1 a0) then some (spec_UnpackText.e ((⟨#[]⟩ : ByteArray),false)) else some (spec_UnpackText.e ((a0.extract 1 a0.size),true)) else none else none:=by kernel_rfl
theorem spec_UnpackText.oke (k : Nat) (a0 : ByteArray) : goF Tryz.f41 spec_UnpackText.ctx spec_UnpackText.sp 0 spec_UnpackText.en (k + 1) [.code (body Tryz.f41)] (startSt [.sc (.string a0)] []) = (spec_UnpackText.f k a0).map spec_UnpackText.e:=by
 rw [spec_UnpackText.f];exact (spec_UnpackText.te _ k a0).trans (cd rfl (cd (cd (cd (cd (bn (fun t1=>(bn (fun t2=>(nb rfl (nb rfl (bn (fun t3=>(nb rfl (nb rfl rfl)))))))))) rfl) (bn (fun t4=>(nb rfl (nb rfl rfl))))) rfl) rfl))
theorem spec_UnpackText.con (k : Nat) (a0 : ByteArray) (r) (h : spec_UnpackText.f k a0 = some r) : Contract Tryz.prog kit 41 [.sc (.string a0)] [] (spec_UnpackText.e r).1 (spec_UnpackText.e r).2.1 (spec_UnpackText.e r).2.2 :=
 con_okG kitOk mix (fun k=>(CtxOk.cons (spec_l04Tokens.xok k) (CtxOk.cons (spec_PlainOf.xok k) (CtxOk.cons (spec_PackText.xok k) CtxOk.nil)))) (spec_UnpackText.oke k a0) h (by kernel_rfl) (by kernel_rfl) (by kernel_rfl) rfl (by kernel_rfl) rfl rfl
def spec_UnpackText.x (k : Nat) : X:=fun ins bs κ=>match ins,bs with
 | [.sc (.string a0)],[]=>(spec_UnpackText.f k a0).bind fun r=>κ (spec_UnpackText.e r).1 (spec_UnpackText.e r).2.1 (spec_UnpackText.e r).2.2
 | _,_=>none
theorem spec_UnpackText.xok (k : Nat) : XOk 41 (spec_UnpackText.x k):=by
 intro ins bs κ res h;unfold spec_UnpackText.x at h
 split at h
 ·obtain ⟨r,hr,h⟩:=Option.bind_eq_some_iff.1 h;exact ⟨_,_,_,spec_UnpackText.con k _ r hr,h⟩
 cases h
def spec_l13Text.sp : Nat → Option (Spec Ty):=fun r=>none
def spec_l13Text.en : Option (Spec Ty):=none
def spec_l13Text.ctx (k : Nat) : Ctx Ty D:=(cons 40 (spec_l13Newest.x k) (cons 41 (spec_UnpackText.x k) (fun _ _ _ _=>none)))
def spec_l13Text.f (k : Nat) (a0 : List S75) (a1 : Int) : Option (ByteArray × Bool):=((spec_l13Newest.f k a0 a1).bind fun t1=>(if t1.2.2.2.2.2.2.2.2 = true then ((spec_UnpackText.f k t1.2.2.2.2.2.2.2.1).bind fun t2=>(some (t2.1,t2.2))) else (some ((⟨#[]⟩ : ByteArray),false))))
def spec_l13Text.e (r : ByteArray × Bool) : Res Ty D:=(.tu [.sc (.string r.1),.sc (.bool r.2)],[],[])
abbrev spec_l13Text.g (rec : List Item → St Ty D → R) (k : Nat):=go1 Tryz.f25 (spec_l13Text.ctx k) spec_l13Text.sp 0 spec_l13Text.en rec
theorem spec_l13Text.te (rec : List Item → St Ty D → R) (k : Nat) (a0 : List S75) (a1 : Int) : spec_l13Text.g rec k [.code (body Tryz.f25)] (startSt [.row 0 .t75 a0,.sc (.int .i64 a1)] []) =
 (spec_l13Newest.f k a0 a1).bind fun t1=>bif !t1.2.2.2.2.2.2.2.2 then some (spec_l13Text.e ((⟨#[]⟩ : ByteArray),false)) else (spec_UnpackText.f k t1.2.2.2.2.2.2.2.1).bind fun t2=>some (spec_l13Text.e (t2.1,t2.2)):=by kernel_rfl
theorem spec_l13Text.oke (k : Nat) (a0 : List S75) (a1 : Int) : goF Tryz.f25 spec_l13Text.ctx spec_l13Text.sp 0 spec_l13Text.en (k + 1) [.code (body Tryz.f25)] (startSt [.row 0 .t75 a0,.sc (.int .i64 a1)] []) = (spec_l13Text.f k a0 a1).map spec_l13Text.e:=by
 rw [spec_l13Text.f];exact (spec_l13Text.te _ k a0 a1).trans (bn (fun t1=>(nb rfl (bn (fun t2=>rfl)))))
theorem spec_l13Text.con (k : Nat) (a0 : List S75) (a1 : Int) (r) (h : spec_l13Text.f k a0 a1 = some r) : Contract Tryz.prog kit 25 [.row 0 .t75 a0,.sc (.int .i64 a1)] [] (spec_l13Text.e r).1 (spec_l13Text.e r).2.1 (spec_l13Text.e r).2.2 :=
 con_okG kitOk mix (fun k=>(CtxOk.cons (spec_l13Newest.xok k) (CtxOk.cons (spec_UnpackText.xok k) CtxOk.nil))) (spec_l13Text.oke k a0 a1) h (by kernel_rfl) (by kernel_rfl) (by kernel_rfl) rfl (by kernel_rfl) rfl rfl
def spec_l13Text.x (k : Nat) : X:=fun ins bs κ=>match ins,bs with
 | [.row 0 .t75 a0,.sc (.int .i64 a1)],[]=>(spec_l13Text.f k a0 a1).bind fun r=>κ (spec_l13Text.e r).1 (spec_l13Text.e r).2.1 (spec_l13Text.e r).2.2
 | _,_=>none
theorem spec_l13Text.xok (k : Nat) : XOk 25 (spec_l13Text.x k):=by
 intro ins bs κ res h;unfold spec_l13Text.x at h
 split at h
 ·obtain ⟨r,hr,h⟩:=Option.bind_eq_some_iff.1 h;exact ⟨_,_,_,spec_l13Text.con k _ _ r hr,h⟩
 cases h
def spec_l15Read.sp : Nat → Option (Spec Ty):=fun r=>none
def spec_l15Read.en : Option (Spec Ty):=none
def spec_l15Read.ctx (k : Nat) : Ctx Ty D:=(cons 23 (spec_l12At.x k) (cons 24 (spec_ChunkOf.x k) (cons 25 (spec_l13Text.x k) (fun _ _ _ _=>none))))
def spec_l15Read.f (k : Nat) (a0 : List S75) (a1_0 : List S80) (a1_1 : List S128) (a1_2 : Int) (a2 : Int) (a3 : Int) : Option (ByteArray × Bool):=((spec_l12At.f k a1_0 a1_1 a1_2 a2).bind fun t1=>(if t1 < 0 then (some ((⟨#[]⟩ : ByteArray),false)) else ((spec_ChunkOf.f k a1_0 a1_1 a1_2 a2 a3).bind fun t2=>(if t2 = 0 then (some ((⟨#[]⟩ : ByteArray),true)) else ((spec_l13Text.f k a0 t2).bind fun t3=>(some (t3.1,t3.2)))))))
def spec_l15Read.e (r : ByteArray × Bool) : Res Ty D:=(.tu [.sc (.string r.1),.sc (.bool r.2)],[],[])
abbrev spec_l15Read.g (rec : List Item → St Ty D → R) (k : Nat):=go1 Tryz.f11 (spec_l15Read.ctx k) spec_l15Read.sp 0 spec_l15Read.en rec
theorem spec_l15Read.te (rec : List Item → St Ty D → R) (k : Nat) (a0 : List S75) (a1_0 : List S80) (a1_1 : List S128) (a1_2 : Int) (a2 : Int) (a3 : Int) : spec_l15Read.g rec k [.code (body Tryz.f11)] (startSt [.row 0 .t75 a0,.ag [.row 0 .t80 a1_0,.row 0 .t128 a1_1,.sc (.int .i64 a1_2)],.sc (.int .i64 a2),.sc (.int .i64 a3)] []) =
 (spec_l12At.f k a1_0 a1_1 a1_2 a2).bind fun t1=>bif decide (t1 < 0) then some (spec_l15Read.e ((⟨#[]⟩ : ByteArray),false)) else (spec_ChunkOf.f k a1_0 a1_1 a1_2 a2 a3).bind fun t2=>bif decide (t2 = 0) then some (spec_l15Read.e ((⟨#[]⟩ : ByteArray),true)) else (spec_l13Text.f k a0 t2).bind fun t3=>some (spec_l15Read.e (t3.1,t3.2)):=by kernel_rfl
theorem spec_l15Read.oke (k : Nat) (a0 : List S75) (a1_0 : List S80) (a1_1 : List S128) (a1_2 : Int) (a2 : Int) (a3 : Int) : goF Tryz.f11 spec_l15Read.ctx spec_l15Read.sp 0 spec_l15Read.en (k + 1) [.code (body Tryz.f11)] (startSt [.row 0 .t75 a0,.ag [.row 0 .t80 a1_0,.row 0 .t128 a1_1,.sc (.int .i64 a1_2)],.sc (.int .i64 a2),.sc (.int .i64 a3)] []) = (spec_l15Read.f k a0 a1_0 a1_1 a1_2 a2 a3).map spec_l15Read.e:=by
 rw [spec_l15Read.f];exact (spec_l15Read.te _ k a0 a1_0 a1_1 a1_2 a2 a3).trans (bn (fun t1=>(cd rfl (bn (fun t2=>(cd rfl (bn (fun t3=>rfl))))))))
theorem spec_l15Read.con (k : Nat) (a0 : List S75) (a1_0 : List S80) (a1_1 : List S128) (a1_2 : Int) (a2 : Int) (a3 : Int) (r) (h : spec_l15Read.f k a0 a1_0 a1_1 a1_2 a2 a3 = some r) : Contract Tryz.prog kit 11 [.row 0 .t75 a0,.ag [.row 0 .t80 a1_0,.row 0 .t128 a1_1,.sc (.int .i64 a1_2)],.sc (.int .i64 a2),.sc (.int .i64 a3)] [] (spec_l15Read.e r).1 (spec_l15Read.e r).2.1 (spec_l15Read.e r).2.2 :=
 con_okG kitOk mix (fun k=>(CtxOk.cons (spec_l12At.xok k) (CtxOk.cons (spec_ChunkOf.xok k) (CtxOk.cons (spec_l13Text.xok k) CtxOk.nil)))) (spec_l15Read.oke k a0 a1_0 a1_1 a1_2 a2 a3) h (by kernel_rfl) (by kernel_rfl) (by kernel_rfl) rfl (by kernel_rfl) rfl rfl
def spec_l15Read.x (k : Nat) : X:=fun ins bs κ=>match ins,bs with
 | [.row 0 .t75 a0,.ag [.row 0 .t80 a1_0,.row 0 .t128 a1_1,.sc (.int .i64 a1_2)],.sc (.int .i64 a2),.sc (.int .i64 a3)],[]=>(spec_l15Read.f k a0 a1_0 a1_1 a1_2 a2 a3).bind fun r=>κ (spec_l15Read.e r).1 (spec_l15Read.e r).2.1 (spec_l15Read.e r).2.2
 | _,_=>none
theorem spec_l15Read.xok (k : Nat) : XOk 11 (spec_l15Read.x k):=by
 intro ins bs κ res h;unfold spec_l15Read.x at h
 split at h
 ·obtain ⟨r,hr,h⟩:=Option.bind_eq_some_iff.1 h;exact ⟨_,_,_,spec_l15Read.con k _ _ _ _ _ _ r hr,h⟩
 cases h
def spec_ReadLeaf.sp : Nat → Option (Spec Ty):=fun r=>none
def spec_ReadLeaf.en : Option (Spec Ty):=none
def spec_ReadLeaf.ctx (k : Nat) : Ctx Ty D:=(cons 42 (spec_l01In.x k) (fun _ _ _ _=>none))
def spec_ReadLeaf.f (k : Nat) (a0_0 : List S68) (a1 : Int) (a2 : Int) : Option (ByteArray × Bool):=((spec_l01In.f k a1 0 (w64 ((a0_0.length : Int) - 1))).bind fun t1=>(if t1 = true then (if 0 ≤ a1 then (if a1 < (a0_0.length : Int) then ((spec_l01In.f k a2 0 (w64 ((((rd_T68 a0_0 a1).f2).length : Int) - 1))).bind fun t2=>(if t2 = true then (if 0 ≤ a1 then (if a1 < (a0_0.length : Int) then (if 0 ≤ a2 then (if a2 < (((rd_T68 a0_0 a1).f2).length : Int) then (if ((rd_T96 ((rd_T68 a0_0 a1).f2) a2).f0) = 1 then (if 0 ≤ a1 then (if a1 < (a0_0.length : Int) then (if 0 ≤ a2 then (if a2 < (((rd_T68 a0_0 a1).f2).length : Int) then (some ((rd_T96 ((rd_T68 a0_0 a1).f2) a2).f1,true)) else none) else none) else none) else none) else (some ((⟨#[]⟩ : ByteArray),false))) else none) else none) else none) else none) else (some ((⟨#[]⟩ : ByteArray),false)))) else none) else none) else (some ((⟨#[]⟩ : ByteArray),false))))
def spec_ReadLeaf.e (r : ByteArray × Bool) : Res Ty D:=(.tu [.sc (.string r.1),.sc (.bool r.2)],[],[])
abbrev spec_ReadLeaf.g (rec : List Item → St Ty D → R) (k : Nat):=go1 Tryz.f26 (spec_ReadLeaf.ctx k) spec_ReadLeaf.sp 0 spec_ReadLeaf.en rec
theorem spec_ReadLeaf.te (rec : List Item → St Ty D → R) (k : Nat) (a0_0 : List S68) (a1 : Int) (a2 : Int) : spec_ReadLeaf.g rec k [.code (body Tryz.f26)] (startSt [.ag [.row 0 .t68 a0_0],.sc (.int .i64 a1),.sc (.int .i64 a2)] []) =
 (spec_l01In.f k a1 0 (w64 ((a0_0.length : Int) - 1))).bind fun t1=>bif !t1 then some (spec_ReadLeaf.e ((⟨#[]⟩ : ByteArray),false)) else bif decide (0 ≤ a1) then bif decide (a1 < (a0_0.length : Int)) then (spec_l01In.f k a2 0 (w64 ((((rd_T68 a0_0 a1).f2).length : Int) - 1))).bind fun t2=>bif !t2 then some (spec_ReadLeaf.e ((⟨#[]⟩ : ByteArray),false)) else bif decide (0 ≤ a1) then bif decide (a1 < (a0_0.length : Int)) then bif decide (0 ≤ a2) then bif decide (a2 < (((rd_T68 a0_0 a1).f2).length : Int)) then bif !decide (((rd_T96 ((rd_T68 a0_0 a1).f2) a2).f0) = 1) then some (spec_ReadLeaf.e ((⟨#[]⟩ : ByteArray),false)) else bif decide (0 ≤ a1) then bif decide (a1 < (a0_0.length : Int)) then bif decide (0 ≤ a2) then bif decide (a2 < (((rd_T68 a0_0 a1).f2).length : Int)) then some (spec_ReadLeaf.e ((rd_T96 ((rd_T68 a0_0 a1).f2) a2).f1,true)) else none else none else none else none else none else none else none else none else none else none:=by kernel_rfl
theorem spec_ReadLeaf.oke (k : Nat) (a0_0 : List S68) (a1 : Int) (a2 : Int) : goF Tryz.f26 spec_ReadLeaf.ctx spec_ReadLeaf.sp 0 spec_ReadLeaf.en (k + 1) [.code (body Tryz.f26)] (startSt [.ag [.row 0 .t68 a0_0],.sc (.int .i64 a1),.sc (.int .i64 a2)] []) = (spec_ReadLeaf.f k a0_0 a1 a2).map spec_ReadLeaf.e:=by
 rw [spec_ReadLeaf.f];exact (spec_ReadLeaf.te _ k a0_0 a1 a2).trans (bn (fun t1=>(nb rfl (cd (cd (bn (fun t2=>(nb rfl (cd (cd (cd (cd (nd rfl (cd (cd (cd (cd rfl rfl) rfl) rfl) rfl)) rfl) rfl) rfl) rfl)))) rfl) rfl))))
theorem spec_ReadLeaf.con (k : Nat) (a0_0 : List S68) (a1 : Int) (a2 : Int) (r) (h : spec_ReadLeaf.f k a0_0 a1 a2 = some r) : Contract Tryz.prog kit 26 [.ag [.row 0 .t68 a0_0],.sc (.int .i64 a1),.sc (.int .i64 a2)] [] (spec_ReadLeaf.e r).1 (spec_ReadLeaf.e r).2.1 (spec_ReadLeaf.e r).2.2 :=
 con_okG kitOk mix (fun k=>(CtxOk.cons (spec_l01In.xok k) CtxOk.nil)) (spec_ReadLeaf.oke k a0_0 a1 a2) h (by kernel_rfl) (by kernel_rfl) (by kernel_rfl) rfl (by kernel_rfl) rfl rfl
def spec_ReadLeaf.x (k : Nat) : X:=fun ins bs κ=>match ins,bs with
 | [.ag [.row 0 .t68 a0_0],.sc (.int .i64 a1),.sc (.int .i64 a2)],[]=>(spec_ReadLeaf.f k a0_0 a1 a2).bind fun r=>κ (spec_ReadLeaf.e r).1 (spec_ReadLeaf.e r).2.1 (spec_ReadLeaf.e r).2.2
 | _,_=>none
theorem spec_ReadLeaf.xok (k : Nat) : XOk 26 (spec_ReadLeaf.x k):=by
 intro ins bs κ res h;unfold spec_ReadLeaf.x at h
 split at h
 ·obtain ⟨r,hr,h⟩:=Option.bind_eq_some_iff.1 h;exact ⟨_,_,_,spec_ReadLeaf.con k _ _ _ r hr,h⟩
 cases h
def spec_l02Four.sp : Nat → Option (Spec Ty):=fun r=>none
def spec_l02Four.en : Option (Spec Ty):=none
def spec_l02Four.ctx (k : Nat) : Ctx Ty D:=(fun _ _ _ _=>none)
def spec_l02Four.f (k : Nat) (a0 : Int) : Option (ByteArray):=(some ((strOfNums ([(Go.IntKind.wrap .u8 ((Int.fdiv a0 16777216))),(Go.IntKind.wrap .u8 ((Int.fdiv a0 65536))),(Go.IntKind.wrap .u8 ((Int.fdiv a0 256))),(Go.IntKind.wrap .u8 (a0))] : List Int))))
def spec_l02Four.e (r : ByteArray) : Res Ty D:=(.sc (.string r),[],[])
abbrev spec_l02Four.g (rec : List Item → St Ty D → R) (k : Nat):=go1 Tryz.f68 (spec_l02Four.ctx k) spec_l02Four.sp 0 spec_l02Four.en rec
theorem spec_l02Four.te (rec : List Item → St Ty D → R) (k : Nat) (a0 : Int) : spec_l02Four.g rec k [.code (body Tryz.f68)] (startSt [.sc (.int .u32 a0)] []) =
 some (spec_l02Four.e ((strOfNums ([(Go.IntKind.wrap .u8 ((Int.fdiv a0 16777216))),(Go.IntKind.wrap .u8 ((Int.fdiv a0 65536))),(Go.IntKind.wrap .u8 ((Int.fdiv a0 256))),(Go.IntKind.wrap .u8 (a0))] : List Int)))):=by kernel_rfl
theorem spec_l02Four.oke (k : Nat) (a0 : Int) : goF Tryz.f68 spec_l02Four.ctx spec_l02Four.sp 0 spec_l02Four.en (k + 1) [.code (body Tryz.f68)] (startSt [.sc (.int .u32 a0)] []) = (spec_l02Four.f k a0).map spec_l02Four.e:=by
 rw [spec_l02Four.f];exact (spec_l02Four.te _ k a0).trans rfl
theorem spec_l02Four.con (k : Nat) (a0 : Int) (r) (h : spec_l02Four.f k a0 = some r) : Contract Tryz.prog kit 68 [.sc (.int .u32 a0)] [] (spec_l02Four.e r).1 (spec_l02Four.e r).2.1 (spec_l02Four.e r).2.2 :=
 con_okG kitOk mix (fun k=>CtxOk.nil) (spec_l02Four.oke k a0) h (by kernel_rfl) (by kernel_rfl) (by kernel_rfl) rfl (by kernel_rfl) rfl rfl
def spec_l02Four.x (k : Nat) : X:=fun ins bs κ=>match ins,bs with
 | [.sc (.int .u32 a0)],[]=>(spec_l02Four.f k a0).bind fun r=>κ (spec_l02Four.e r).1 (spec_l02Four.e r).2.1 (spec_l02Four.e r).2.2
 | _,_=>none
theorem spec_l02Four.xok (k : Nat) : XOk 68 (spec_l02Four.x k):=by
 intro ins bs κ res h;unfold spec_l02Four.x at h
 split at h
 ·obtain ⟨r,hr,h⟩:=Option.bind_eq_some_iff.1 h;exact ⟨_,_,_,spec_l02Four.con k _ r hr,h⟩
 cases h
end
end Go.Proofs.YtbbfkodckpfjcaaGreat.M2

namespace Go.Proofs.YtbbfkodckpfjcaaGreat.M2
open Go Go.Proofs.YtbbfkodckpfjcaaGreat.PK
set_option linter.unusedVariables false
set_option linter.unusedSimpArgs false
set_option maxHeartbeats 4000000
set_option maxRecDepth 100000
noncomputable section
def spec_SumMore.sp : Nat → Option (Spec Ty):=fun r=>bif Nat.beq r 2 then some ⟨[(0,.keep),(1,.keep),(5,.keep)],[]⟩ else bif Nat.beq r 6 then some ⟨[(0,.keep),(1,.keep),(5,.keep),(6,.keep)],[]⟩ else none
def spec_SumMore.en : Option (Spec Ty):=none
def spec_SumMore.s2 (x0 : Int) (x1 : ByteArray) (x5 : Int) : St Ty D:=⟨(Env.put (Env.put (Env.put E (some 0) (.sc (.int .u32 x0))) (some 1) (.sc (.string x1))) (some 5) (.sc (.int .i64 x5))),H0,1000⟩
def spec_SumMore.s6 (x0 : Int) (x1 : ByteArray) (x5 : Int) (x6 : Int) : St Ty D:=⟨(Env.put (Env.put (Env.put (Env.put E (some 0) (.sc (.int .u32 x0))) (some 1) (.sc (.string x1))) (some 5) (.sc (.int .i64 x5))) (some 6) (.sc (.int .i64 x6))),H0,1000⟩
def spec_SumMore.ctx (k : Nat) : Ctx Ty D:=(fun _ _ _ _=>none)
mutual
def spec_SumMore.c2 : Nat → Int → ByteArray → Int → Option (Int)
 | 0,_,_,_=>none
 | k + 1,x0,x1,x5=>(if x5 < (x1.size : Int) then (if 0 ≤ x5 then (if x5 < (x1.size : Int) then (spec_SumMore.c6 k (Go.bits .xor .u32 x0 (Go.IntKind.wrap .u32 ((bt x1 x5)))) x1 x5 0) else none) else none) else (some (x0)))
def spec_SumMore.c6 : Nat → Int → ByteArray → Int → Int → Option (Int)
 | 0,_,_,_,_=>none
 | k + 1,x0,x1,x5,x6=>(if x6 < 8 then (if (Int.tmod x0 2) = 1 then (spec_SumMore.c6 k (Go.bits .xor .u32 (Go.IntKind.wrap .u32 (Int.tdiv x0 2)) 3558460437) x1 x5 (w64 (x6 + 1))) else (spec_SumMore.c6 k (Go.IntKind.wrap .u32 (Int.tdiv x0 2)) x1 x5 (w64 (x6 + 1)))) else (spec_SumMore.c2 k x0 x1 (w64 (x5 + 1))))
end
def spec_SumMore.f (k : Nat) (a0 : Int) (a1 : ByteArray) : Option (Int):=(spec_SumMore.c2 k a0 a1 0)
def spec_SumMore.e (r : Int) : Res Ty D:=(.sc (.int .u32 r),[],[])
abbrev spec_SumMore.g (rec : List Item → St Ty D → R) (k : Nat):=go1 Tryz.f86 (spec_SumMore.ctx k) spec_SumMore.sp 0 spec_SumMore.en rec
theorem spec_SumMore.t2 (rec : List Item → St Ty D → R) (k : Nat) (x0 : Int) (x1 : ByteArray) (x5 : Int) : spec_SumMore.g rec k (td Tryz.f86 2) (spec_SumMore.s2 x0 x1 x5) =
 bif decide (x5 < (x1.size : Int)) then bif decide (0 ≤ x5) then bif decide (x5 < (x1.size : Int)) then rec (td Tryz.f86 6) (spec_SumMore.s6 (Go.bits .xor .u32 x0 (Go.IntKind.wrap .u32 ((bt x1 x5)))) x1 x5 0) else none else none else some (spec_SumMore.e (x0)):=by kernel_rfl
theorem spec_SumMore.t6 (rec : List Item → St Ty D → R) (k : Nat) (x0 : Int) (x1 : ByteArray) (x5 : Int) (x6 : Int) : spec_SumMore.g rec k (td Tryz.f86 6) (spec_SumMore.s6 x0 x1 x5 x6) =
 bif decide (x6 < 8) then bif decide ((Int.tmod x0 2) = 1) then rec (td Tryz.f86 6) (spec_SumMore.s6 (Go.bits .xor .u32 (Go.IntKind.wrap .u32 (Int.tdiv x0 2)) 3558460437) x1 x5 (w64 (x6 + 1))) else rec (td Tryz.f86 6) (spec_SumMore.s6 (Go.IntKind.wrap .u32 (Int.tdiv x0 2)) x1 x5 (w64 (x6 + 1))) else rec (td Tryz.f86 2) (spec_SumMore.s2 x0 x1 (w64 (x5 + 1))):=by kernel_rfl
theorem spec_SumMore.te (rec : List Item → St Ty D → R) (k : Nat) (a0 : Int) (a1 : ByteArray) : spec_SumMore.g rec k [.code (body Tryz.f86)] (startSt [.sc (.int .u32 a0),.sc (.string a1)] []) =
 rec (td Tryz.f86 2) (spec_SumMore.s2 a0 a1 0):=by kernel_rfl
theorem spec_SumMore.ok : ∀ k : Nat,(∀ (x0 : Int) (x1 : ByteArray) (x5 : Int),goF Tryz.f86 spec_SumMore.ctx spec_SumMore.sp 0 spec_SumMore.en k (td Tryz.f86 2) (spec_SumMore.s2 x0 x1 x5) = (spec_SumMore.c2 k x0 x1 x5).map spec_SumMore.e) ∧ (∀ (x0 : Int) (x1 : ByteArray) (x5 : Int) (x6 : Int),goF Tryz.f86 spec_SumMore.ctx spec_SumMore.sp 0 spec_SumMore.en k (td Tryz.f86 6) (spec_SumMore.s6 x0 x1 x5 x6) = (spec_SumMore.c6 k x0 x1 x5 x6).map spec_SumMore.e)
 | 0=>⟨fun _ _ _=>rfl,fun _ _ _ _=>rfl⟩
 | k + 1=>by
  have ih:=spec_SumMore.ok k;obtain ⟨i2,i6⟩:=ih;refine ⟨?_,?_⟩
  ·intro x0 x1 x5;rw [spec_SumMore.c2];exact (spec_SumMore.t2 _ k x0 x1 x5).trans (cd (cd (cd (i6 _ _ _ _) rfl) rfl) rfl)
  intro x0 x1 x5 x6;rw [spec_SumMore.c6];exact (spec_SumMore.t6 _ k x0 x1 x5 x6).trans (cd (cd (i6 _ _ _ _) (i6 _ _ _ _)) (i2 _ _ _))
theorem spec_SumMore.oke (k : Nat) (a0 : Int) (a1 : ByteArray) : goF Tryz.f86 spec_SumMore.ctx spec_SumMore.sp 0 spec_SumMore.en (k + 1) [.code (body Tryz.f86)] (startSt [.sc (.int .u32 a0),.sc (.string a1)] []) = (spec_SumMore.f k a0 a1).map spec_SumMore.e:=by
 obtain ⟨i2,i6⟩:=spec_SumMore.ok k;rw [spec_SumMore.f];exact (spec_SumMore.te _ k a0 a1).trans (i2 _ _ _)
theorem spec_SumMore.con (k : Nat) (a0 : Int) (a1 : ByteArray) (r) (h : spec_SumMore.f k a0 a1 = some r) : Contract Tryz.prog kit 86 [.sc (.int .u32 a0),.sc (.string a1)] [] (spec_SumMore.e r).1 (spec_SumMore.e r).2.1 (spec_SumMore.e r).2.2 :=
 con_okG kitOk mix (fun k=>CtxOk.nil) (spec_SumMore.oke k a0 a1) h (by kernel_rfl) (by kernel_rfl) (by kernel_rfl) rfl (by kernel_rfl) rfl rfl
def spec_SumMore.x (k : Nat) : X:=fun ins bs κ=>match ins,bs with
 | [.sc (.int .u32 a0),.sc (.string a1)],[]=>(spec_SumMore.f k a0 a1).bind fun r=>κ (spec_SumMore.e r).1 (spec_SumMore.e r).2.1 (spec_SumMore.e r).2.2
 | _,_=>none
theorem spec_SumMore.xok (k : Nat) : XOk 86 (spec_SumMore.x k):=by
 intro ins bs κ res h;unfold spec_SumMore.x at h
 split at h
 ·obtain ⟨r,hr,h⟩:=Option.bind_eq_some_iff.1 h;exact ⟨_,_,_,spec_SumMore.con k _ _ r hr,h⟩
 cases h
def spec_SumOf.sp : Nat → Option (Spec Ty):=fun r=>none
def spec_SumOf.en : Option (Spec Ty):=none
def spec_SumOf.ctx (k : Nat) : Ctx Ty D:=(cons 86 (spec_SumMore.x k) (fun _ _ _ _=>none))
def spec_SumOf.f (k : Nat) (a0 : ByteArray) : Option (Int):=((spec_SumMore.f k 4294967295 a0).bind fun t1=>(some (t1)))
def spec_SumOf.e (r : Int) : Res Ty D:=(.sc (.int .u32 r),[],[])
abbrev spec_SumOf.g (rec : List Item → St Ty D → R) (k : Nat):=go1 Tryz.f69 (spec_SumOf.ctx k) spec_SumOf.sp 0 spec_SumOf.en rec
theorem spec_SumOf.te (rec : List Item → St Ty D → R) (k : Nat) (a0 : ByteArray) : spec_SumOf.g rec k [.code (body Tryz.f69)] (startSt [.sc (.string a0)] []) =
 (spec_SumMore.f k 4294967295 a0).bind fun t1=>some (spec_SumOf.e (t1)):=by kernel_rfl
theorem spec_SumOf.oke (k : Nat) (a0 : ByteArray) : goF Tryz.f69 spec_SumOf.ctx spec_SumOf.sp 0 spec_SumOf.en (k + 1) [.code (body Tryz.f69)] (startSt [.sc (.string a0)] []) = (spec_SumOf.f k a0).map spec_SumOf.e:=by
 rw [spec_SumOf.f];exact (spec_SumOf.te _ k a0).trans (bn (fun t1=>rfl))
theorem spec_SumOf.con (k : Nat) (a0 : ByteArray) (r) (h : spec_SumOf.f k a0 = some r) : Contract Tryz.prog kit 69 [.sc (.string a0)] [] (spec_SumOf.e r).1 (spec_SumOf.e r).2.1 (spec_SumOf.e r).2.2 :=
 con_okG kitOk mix (fun k=>(CtxOk.cons (spec_SumMore.xok k) CtxOk.nil)) (spec_SumOf.oke k a0) h (by kernel_rfl) (by kernel_rfl) (by kernel_rfl) rfl (by kernel_rfl) rfl rfl
def spec_SumOf.x (k : Nat) : X:=fun ins bs κ=>match ins,bs with
 | [.sc (.string a0)],[]=>(spec_SumOf.f k a0).bind fun r=>κ (spec_SumOf.e r).1 (spec_SumOf.e r).2.1 (spec_SumOf.e r).2.2
 | _,_=>none
theorem spec_SumOf.xok (k : Nat) : XOk 69 (spec_SumOf.x k):=by
 intro ins bs κ res h;unfold spec_SumOf.x at h
 split at h
 ·obtain ⟨r,hr,h⟩:=Option.bind_eq_some_iff.1 h;exact ⟨_,_,_,spec_SumOf.con k _ r hr,h⟩
 cases h
def spec_Unsealed.sp : Nat → Option (Spec Ty):=fun r=>none
def spec_Unsealed.en : Option (Spec Ty):=none
def spec_Unsealed.ctx (k : Nat) : Ctx Ty D:=(cons 68 (spec_l02Four.x k) (cons 69 (spec_SumOf.x k) (fun _ _ _ _=>none)))
def spec_Unsealed.f (k : Nat) (a0 : ByteArray) : Option (ByteArray × Bool):=(if (w64 ((a0.size : Int) - 4)) < 0 then (some ((⟨#[]⟩ : ByteArray),false)) else (if (w64 ((a0.size : Int) - 4)) > 20000 then (some ((⟨#[]⟩ : ByteArray),false)) else (if 0 ≤ (w64 ((a0.size : Int) - 4)) then (if (w64 ((a0.size : Int) - 4)) ≤ (a0.size : Int) then (if 0 ≤ (w64 ((a0.size : Int) - 4)) then (if (w64 ((a0.size : Int) - 4)) ≤ (a0.size : Int) then ((spec_SumOf.f k (a0.extract 0 ((w64 ((a0.size : Int) - 4)).toNat))).bind fun t1=>((spec_l02Four.f k t1).bind fun t2=>(if (seq (a0.extract ((w64 ((a0.size : Int) - 4)).toNat) a0.size) t2) = true then (if 0 ≤ (w64 ((a0.size : Int) - 4)) then (if (w64 ((a0.size : Int) - 4)) ≤ (a0.size : Int) then (some ((a0.extract 0 ((w64 ((a0.size : Int) - 4)).toNat)),true)) else none) else none) else (some ((⟨#[]⟩ : ByteArray),false))))) else none) else none) else none) else none)))
def spec_Unsealed.e (r : ByteArray × Bool) : Res Ty D:=(.tu [.sc (.string r.1),.sc (.bool r.2)],[],[])
abbrev spec_Unsealed.g (rec : List Item → St Ty D → R) (k : Nat):=go1 Tryz.f43 (spec_Unsealed.ctx k) spec_Unsealed.sp 0 spec_Unsealed.en rec
theorem spec_Unsealed.te (rec : List Item → St Ty D → R) (k : Nat) (a0 : ByteArray) : spec_Unsealed.g rec k [.code (body Tryz.f43)] (startSt [.sc (.string a0)] []) =
 bif decide ((w64 ((a0.size : Int) - 4)) < 0) then some (spec_Unsealed.e ((⟨#[]⟩ : ByteArray),false)) else bif decide ((w64 ((a0.size : Int) - 4)) > 20000) then some (spec_Unsealed.e ((⟨#[]⟩ : ByteArray),false)) else bif decide (0 ≤ (w64 ((a0.size : Int) - 4))) then bif decide ((w64 ((a0.size : Int) - 4)) ≤ (a0.size : Int)) then bif decide (0 ≤ (w64 ((a0.size : Int) - 4))) then bif decide ((w64 ((a0.size : Int) - 4)) ≤ (a0.size : Int)) then (spec_SumOf.f k (a0.extract 0 ((w64 ((a0.size : Int) - 4)).toNat))).bind fun t1=>(spec_l02Four.f k t1).bind fun t2=>bif !(seq (a0.extract ((w64 ((a0.size : Int) - 4)).toNat) a0.size) t2) then some (spec_Unsealed.e ((⟨#[]⟩ : ByteArray),false)) else bif decide (0 ≤ (w64 ((a0.size : Int) - 4))) then bif decide ((w64 ((a0.size : Int) - 4)) ≤ (a0.size : Int)) then some (spec_Unsealed.e ((a0.extract 0 ((w64 ((a0.size : Int) - 4)).toNat)),true)) else none else none else none else none else none else none:=by kernel_rfl
theorem spec_Unsealed.oke (k : Nat) (a0 : ByteArray) : goF Tryz.f43 spec_Unsealed.ctx spec_Unsealed.sp 0 spec_Unsealed.en (k + 1) [.code (body Tryz.f43)] (startSt [.sc (.string a0)] []) = (spec_Unsealed.f k a0).map spec_Unsealed.e:=by
 rw [spec_Unsealed.f];exact (spec_Unsealed.te _ k a0).trans (cd rfl (cd rfl (cd (cd (cd (cd (bn (fun t1=>(bn (fun t2=>(nb rfl (cd (cd rfl rfl) rfl)))))) rfl) rfl) rfl) rfl)))
theorem spec_Unsealed.con (k : Nat) (a0 : ByteArray) (r) (h : spec_Unsealed.f k a0 = some r) : Contract Tryz.prog kit 43 [.sc (.string a0)] [] (spec_Unsealed.e r).1 (spec_Unsealed.e r).2.1 (spec_Unsealed.e r).2.2 :=
 con_okG kitOk mix (fun k=>(CtxOk.cons (spec_l02Four.xok k) (CtxOk.cons (spec_SumOf.xok k) CtxOk.nil))) (spec_Unsealed.oke k a0) h (by kernel_rfl) (by kernel_rfl) (by kernel_rfl) rfl (by kernel_rfl) rfl rfl
def spec_Unsealed.x (k : Nat) : X:=fun ins bs κ=>match ins,bs with
 | [.sc (.string a0)],[]=>(spec_Unsealed.f k a0).bind fun r=>κ (spec_Unsealed.e r).1 (spec_Unsealed.e r).2.1 (spec_Unsealed.e r).2.2
 | _,_=>none
theorem spec_Unsealed.xok (k : Nat) : XOk 43 (spec_Unsealed.x k):=by
 intro ins bs κ res h;unfold spec_Unsealed.x at h
 split at h
 ·obtain ⟨r,hr,h⟩:=Option.bind_eq_some_iff.1 h;exact ⟨_,_,_,spec_Unsealed.con k _ r hr,h⟩
 cases h
def spec_l01Var.sp : Nat → Option (Spec Ty):=fun r=>bif Nat.beq r 2 then some ⟨[(0,.keep),(3,.own .t5)],[]⟩ else none
def spec_l01Var.en : Option (Spec Ty):=none
def spec_l01Var.s2 (x0 : Int) (h64 : List Int) : St Ty D:=⟨(Env.put (Env.put E (some 0) (.sc (.int .i64 x0))) (some 3) (.sl 64 none)),Heap.put H0 [(64,some (.rowb .t5 h64 0))],1000⟩
def spec_l01Var.ctx (k : Nat) : Ctx Ty D:=(fun _ _ _ _=>none)
def spec_l01Var.c2 : Nat → Int → (List Int) → Option (ByteArray)
 | 0,_,_=>none
 | k + 1,x0,h64=>(if x0 > 127 then (if h64.length + ([(Go.IntKind.wrap .u8 ((w64 ((Int.tmod x0 128) + 128))))] : List Int).length ≤ 140737488355328 then (spec_l01Var.c2 k (w64 (Int.tdiv x0 128)) (h64 ++ ([(Go.IntKind.wrap .u8 ((w64 ((Int.tmod x0 128) + 128))))] : List Int))) else none) else (if h64.length + ([(Go.IntKind.wrap .u8 (x0))] : List Int).length ≤ 140737488355328 then (some ((strOfNums (h64 ++ ([(Go.IntKind.wrap .u8 (x0))] : List Int))))) else none))
def spec_l01Var.f (k : Nat) (a0 : Int) : Option (ByteArray):=(spec_l01Var.c2 k a0 ([] : List Int))
def spec_l01Var.e (r : ByteArray) : Res Ty D:=(.sc (.string r),[],[])
abbrev spec_l01Var.g (rec : List Item → St Ty D → R) (k : Nat):=go1 Tryz.f74 (spec_l01Var.ctx k) spec_l01Var.sp 0 spec_l01Var.en rec
theorem spec_l01Var.t2 (rec : List Item → St Ty D → R) (k : Nat) (x0 : Int) (h64 : List Int) : spec_l01Var.g rec k (td Tryz.f74 2) (spec_l01Var.s2 x0 h64) =
 bif decide (x0 > 127) then bif decide (h64.length + ([(Go.IntKind.wrap .u8 ((w64 ((Int.tmod x0 128) + 128))))] : List Int).length ≤ 140737488355328) then rec (td Tryz.f74 2) (spec_l01Var.s2 (w64 (Int.tdiv x0 128)) (h64 ++ ([(Go.IntKind.wrap .u8 ((w64 ((Int.tmod x0 128) + 128))))] : List Int))) else none else bif decide (h64.length + ([(Go.IntKind.wrap .u8 (x0))] : List Int).length ≤ 140737488355328) then some (spec_l01Var.e ((strOfNums (h64 ++ ([(Go.IntKind.wrap .u8 (x0))] : List Int))))) else none:=by kernel_rfl
theorem spec_l01Var.te (rec : List Item → St Ty D → R) (k : Nat) (a0 : Int) : spec_l01Var.g rec k [.code (body Tryz.f74)] (startSt [.sc (.int .i64 a0)] []) =
 rec (td Tryz.f74 2) (spec_l01Var.s2 a0 ([] : List Int)):=by kernel_rfl
theorem spec_l01Var.ok : ∀ k : Nat,(∀ (x0 : Int) (h64 : List Int),goF Tryz.f74 spec_l01Var.ctx spec_l01Var.sp 0 spec_l01Var.en k (td Tryz.f74 2) (spec_l01Var.s2 x0 h64) = (spec_l01Var.c2 k x0 h64).map spec_l01Var.e)
 | 0=>fun _ _=>rfl
 | k + 1=>by
  have ih:=spec_l01Var.ok k;have i2:=ih;intro x0 h64;rw [spec_l01Var.c2];exact (spec_l01Var.t2 _ k x0 h64).trans (cd (cd (i2 _ _) rfl) (cd rfl rfl))
theorem spec_l01Var.oke (k : Nat) (a0 : Int) : goF Tryz.f74 spec_l01Var.ctx spec_l01Var.sp 0 spec_l01Var.en (k + 1) [.code (body Tryz.f74)] (startSt [.sc (.int .i64 a0)] []) = (spec_l01Var.f k a0).map spec_l01Var.e:=by
 have i2:=spec_l01Var.ok k;rw [spec_l01Var.f];exact (spec_l01Var.te _ k a0).trans (i2 _ _)
theorem spec_l01Var.con (k : Nat) (a0 : Int) (r) (h : spec_l01Var.f k a0 = some r) : Contract Tryz.prog kit 74 [.sc (.int .i64 a0)] [] (spec_l01Var.e r).1 (spec_l01Var.e r).2.1 (spec_l01Var.e r).2.2 :=
 con_okG kitOk mix (fun k=>CtxOk.nil) (spec_l01Var.oke k a0) h (by kernel_rfl) (by kernel_rfl) (by kernel_rfl) rfl (by kernel_rfl) rfl rfl
def spec_l01Var.x (k : Nat) : X:=fun ins bs κ=>match ins,bs with
 | [.sc (.int .i64 a0)],[]=>(spec_l01Var.f k a0).bind fun r=>κ (spec_l01Var.e r).1 (spec_l01Var.e r).2.1 (spec_l01Var.e r).2.2
 | _,_=>none
theorem spec_l01Var.xok (k : Nat) : XOk 74 (spec_l01Var.x k):=by
 intro ins bs κ res h;unfold spec_l01Var.x at h
 split at h
 ·obtain ⟨r,hr,h⟩:=Option.bind_eq_some_iff.1 h;exact ⟨_,_,_,spec_l01Var.con k _ r hr,h⟩
 cases h
def spec_ReadVar.sp : Nat → Option (Spec Ty):=fun r=>bif Nat.beq r 6 then some ⟨[(0,.keep),(1,.keep),(7,.keep),(8,.keep),(9,.keep)],[]⟩ else none
def spec_ReadVar.en : Option (Spec Ty):=none
def spec_ReadVar.s6 (x0 : ByteArray) (x1 : Int) (x7 : Int) (x8 : Int) (x9 : Int) : St Ty D:=⟨(Env.put (Env.put (Env.put (Env.put (Env.put E (some 0) (.sc (.string x0))) (some 1) (.sc (.int .i64 x1))) (some 7) (.sc (.int .i64 x7))) (some 8) (.sc (.int .i64 x8))) (some 9) (.sc (.int .i64 x9))),H0,1000⟩
def spec_ReadVar.ctx (k : Nat) : Ctx Ty D:=(cons 42 (spec_l01In.x k) (cons 74 (spec_l01Var.x k) (fun _ _ _ _=>none)))
def spec_ReadVar.c6 : Nat → ByteArray → Int → Int → Int → Int → Option (Int × Int × Bool)
 | 0,_,_,_,_,_=>none
 | k + 1,x0,x1,x7,x8,x9=>(if x9 < (x0.size : Int) then (if x9 < (w64 (x1 + 5)) then (if 0 ≤ x9 then (if x9 < (x0.size : Int) then (if 0 ≤ x9 then (if x9 < (x0.size : Int) then (if (bt x0 x9) < 128 then (if (w64 (x7 + (w64 ((Int.tmod (w64 ((bt x0 x9))) 128) * x8)))) > 1000000000 then (some (0,0,false)) else ((spec_l01Var.f k (w64 (x7 + (w64 ((Int.tmod (w64 ((bt x0 x9))) 128) * x8))))).bind fun t2=>(if 0 ≤ (w64 (x9 + 1)) then (if (w64 (x9 + 1)) ≤ (x0.size : Int) then (if 0 ≤ x1 then (if x1 ≤ (w64 (x9 + 1)) then (if (seq t2 (x0.extract x1.toNat ((w64 (x9 + 1)).toNat))) = true then (some ((w64 (x7 + (w64 ((Int.tmod (w64 ((bt x0 x9))) 128) * x8)))),(w64 (x9 + 1)),true)) else (some (0,0,false))) else none) else none) else none) else none))) else (spec_ReadVar.c6 k x0 x1 (w64 (x7 + (w64 ((Int.tmod (w64 ((bt x0 x9))) 128) * x8)))) (w64 (x8 * 128)) (w64 (x9 + 1)))) else none) else none) else none) else none) else (some (0,0,false))) else (some (0,0,false)))
def spec_ReadVar.f (k : Nat) (a0 : ByteArray) (a1 : Int) : Option (Int × Int × Bool):=((spec_l01In.f k a1 0 (a0.size : Int)).bind fun t1=>(if t1 = true then (spec_ReadVar.c6 k a0 a1 0 1 a1) else (some (0,0,false))))
def spec_ReadVar.e (r : Int × Int × Bool) : Res Ty D:=(.tu [.sc (.int .i64 r.1),.sc (.int .i64 r.2.1),.sc (.bool r.2.2)],[],[])
abbrev spec_ReadVar.g (rec : List Item → St Ty D → R) (k : Nat):=go1 Tryz.f70 (spec_ReadVar.ctx k) spec_ReadVar.sp 0 spec_ReadVar.en rec
theorem spec_ReadVar.t6 (rec : List Item → St Ty D → R) (k : Nat) (x0 : ByteArray) (x1 : Int) (x7 : Int) (x8 : Int) (x9 : Int) : spec_ReadVar.g rec k (td Tryz.f70 6) (spec_ReadVar.s6 x0 x1 x7 x8 x9) =
 bif decide (x9 < (x0.size : Int)) then bif decide (x9 < (w64 (x1 + 5))) then bif decide (0 ≤ x9) then bif decide (x9 < (x0.size : Int)) then bif decide (0 ≤ x9) then bif decide (x9 < (x0.size : Int)) then bif decide ((bt x0 x9) < 128) then bif decide ((w64 (x7 + (w64 ((Int.tmod (w64 ((bt x0 x9))) 128) * x8)))) > 1000000000) then some (spec_ReadVar.e (0,0,false)) else (spec_l01Var.f k (w64 (x7 + (w64 ((Int.tmod (w64 ((bt x0 x9))) 128) * x8))))).bind fun t2=>bif decide (0 ≤ (w64 (x9 + 1))) then bif decide ((w64 (x9 + 1)) ≤ (x0.size : Int)) then bif decide (0 ≤ x1) then bif decide (x1 ≤ (w64 (x9 + 1))) then bif !(seq t2 (x0.extract x1.toNat ((w64 (x9 + 1)).toNat))) then some (spec_ReadVar.e (0,0,false)) else some (spec_ReadVar.e ((w64 (x7 + (w64 ((Int.tmod (w64 ((bt x0 x9))) 128) * x8)))),(w64 (x9 + 1)),true)) else none else none else none else none else rec (td Tryz.f70 6) (spec_ReadVar.s6 x0 x1 (w64 (x7 + (w64 ((Int.tmod (w64 ((bt x0 x9))) 128) * x8)))) (w64 (x8 * 128)) (w64 (x9 + 1))) else none else none else none else none else some (spec_ReadVar.e (0,0,false)) else some (spec_ReadVar.e (0,0,false)):=by kernel_rfl
theorem spec_ReadVar.te (rec : List Item → St Ty D → R) (k : Nat) (a0 : ByteArray) (a1 : Int) : spec_ReadVar.g rec k [.code (body Tryz.f70)] (startSt [.sc (.string a0),.sc (.int .i64 a1)] []) =
 (spec_l01In.f k a1 0 (a0.size : Int)).bind fun t1=>bif !t1 then some (spec_ReadVar.e (0,0,false)) else rec (td Tryz.f70 6) (spec_ReadVar.s6 a0 a1 0 1 a1):=by kernel_rfl
theorem spec_ReadVar.ok : ∀ k : Nat,(∀ (x0 : ByteArray) (x1 : Int) (x7 : Int) (x8 : Int) (x9 : Int),goF Tryz.f70 spec_ReadVar.ctx spec_ReadVar.sp 0 spec_ReadVar.en k (td Tryz.f70 6) (spec_ReadVar.s6 x0 x1 x7 x8 x9) = (spec_ReadVar.c6 k x0 x1 x7 x8 x9).map spec_ReadVar.e)
 | 0=>fun _ _ _ _ _=>rfl
 | k + 1=>by
  have ih:=spec_ReadVar.ok k;have i6:=ih;intro x0 x1 x7 x8 x9;rw [spec_ReadVar.c6];exact (spec_ReadVar.t6 _ k x0 x1 x7 x8 x9).trans (cd (cd (cd (cd (cd (cd (cd (cd rfl (bn (fun t2=>(cd (cd (cd (cd (nb rfl rfl) rfl) rfl) rfl) rfl)))) (i6 _ _ _ _ _)) rfl) rfl) rfl) rfl) rfl) rfl)
theorem spec_ReadVar.oke (k : Nat) (a0 : ByteArray) (a1 : Int) : goF Tryz.f70 spec_ReadVar.ctx spec_ReadVar.sp 0 spec_ReadVar.en (k + 1) [.code (body Tryz.f70)] (startSt [.sc (.string a0),.sc (.int .i64 a1)] []) = (spec_ReadVar.f k a0 a1).map spec_ReadVar.e:=by
 have i6:=spec_ReadVar.ok k;rw [spec_ReadVar.f];exact (spec_ReadVar.te _ k a0 a1).trans (bn (fun t1=>(nb rfl (i6 _ _ _ _ _))))
theorem spec_ReadVar.con (k : Nat) (a0 : ByteArray) (a1 : Int) (r) (h : spec_ReadVar.f k a0 a1 = some r) : Contract Tryz.prog kit 70 [.sc (.string a0),.sc (.int .i64 a1)] [] (spec_ReadVar.e r).1 (spec_ReadVar.e r).2.1 (spec_ReadVar.e r).2.2 :=
 con_okG kitOk mix (fun k=>(CtxOk.cons (spec_l01In.xok k) (CtxOk.cons (spec_l01Var.xok k) CtxOk.nil))) (spec_ReadVar.oke k a0 a1) h (by kernel_rfl) (by kernel_rfl) (by kernel_rfl) rfl (by kernel_rfl) rfl rfl
def spec_ReadVar.x (k : Nat) : X:=fun ins bs κ=>match ins,bs with
 | [.sc (.string a0),.sc (.int .i64 a1)],[]=>(spec_ReadVar.f k a0 a1).bind fun r=>κ (spec_ReadVar.e r).1 (spec_ReadVar.e r).2.1 (spec_ReadVar.e r).2.2
 | _,_=>none
theorem spec_ReadVar.xok (k : Nat) : XOk 70 (spec_ReadVar.x k):=by
 intro ins bs κ res h;unfold spec_ReadVar.x at h
 split at h
 ·obtain ⟨r,hr,h⟩:=Option.bind_eq_some_iff.1 h;exact ⟨_,_,_,spec_ReadVar.con k _ _ r hr,h⟩
 cases h
def spec_l06Var.sp : Nat → Option (Spec Ty):=fun r=>none
def spec_l06Var.en : Option (Spec Ty):=none
def spec_l06Var.ctx (k : Nat) : Ctx Ty D:=(cons 70 (spec_ReadVar.x k) (fun _ _ _ _=>none))
def spec_l06Var.f (k : Nat) (a0_0 : ByteArray) (a0_1 : Int) (a0_2 : Bool) : Option (Int × ByteArray × Int × Bool):=((spec_ReadVar.f k a0_0 a0_1).bind fun t1=>(if a0_2 = true then (some (0,a0_0,a0_1,true)) else (if t1.2.2 = true then (some (t1.1,a0_0,t1.2.1,a0_2)) else (some (0,a0_0,a0_1,true)))))
def spec_l06Var.e (r : Int × ByteArray × Int × Bool) : Res Ty D:=(.sc (.int .i64 r.1),[some (.box [.sc (.string r.2.1),.sc (.int .i64 r.2.2.1),.sc (.bool r.2.2.2)])],[])
abbrev spec_l06Var.g (rec : List Item → St Ty D → R) (k : Nat):=go1 Tryz.f44 (spec_l06Var.ctx k) spec_l06Var.sp 1 spec_l06Var.en rec
theorem spec_l06Var.te (rec : List Item → St Ty D → R) (k : Nat) (a0_0 : ByteArray) (a0_1 : Int) (a0_2 : Bool) : spec_l06Var.g rec k [.code (body Tryz.f44)] (startSt [.pt 0 0 0] [.box [.sc (.string a0_0),.sc (.int .i64 a0_1),.sc (.bool a0_2)]]) =
 (spec_ReadVar.f k a0_0 a0_1).bind fun t1=>bif a0_2 then some (spec_l06Var.e (0,a0_0,a0_1,true)) else bif !t1.2.2 then some (spec_l06Var.e (0,a0_0,a0_1,true)) else some (spec_l06Var.e (t1.1,a0_0,t1.2.1,a0_2)):=by kernel_rfl
theorem spec_l06Var.oke (k : Nat) (a0_0 : ByteArray) (a0_1 : Int) (a0_2 : Bool) : goF Tryz.f44 spec_l06Var.ctx spec_l06Var.sp 1 spec_l06Var.en (k + 1) [.code (body Tryz.f44)] (startSt [.pt 0 0 0] [.box [.sc (.string a0_0),.sc (.int .i64 a0_1),.sc (.bool a0_2)]]) = (spec_l06Var.f k a0_0 a0_1 a0_2).map spec_l06Var.e:=by
 rw [spec_l06Var.f];exact (spec_l06Var.te _ k a0_0 a0_1 a0_2).trans (bn (fun t1=>(cb rfl (nb rfl rfl))))
theorem spec_l06Var.con (k : Nat) (a0_0 : ByteArray) (a0_1 : Int) (a0_2 : Bool) (r) (h : spec_l06Var.f k a0_0 a0_1 a0_2 = some r) : Contract Tryz.prog kit 44 [.pt 0 0 0] [.box [.sc (.string a0_0),.sc (.int .i64 a0_1),.sc (.bool a0_2)]] (spec_l06Var.e r).1 (spec_l06Var.e r).2.1 (spec_l06Var.e r).2.2 :=
 con_okG kitOk mix (fun k=>(CtxOk.cons (spec_ReadVar.xok k) CtxOk.nil)) (spec_l06Var.oke k a0_0 a0_1 a0_2) h (by kernel_rfl) (by kernel_rfl) (by kernel_rfl) rfl (by kernel_rfl) rfl rfl
def spec_l06Var.x (k : Nat) : X:=fun ins bs κ=>match ins,bs with
 | [.pt 0 0 0],[.box [.sc (.string a0_0),.sc (.int .i64 a0_1),.sc (.bool a0_2)]]=>(spec_l06Var.f k a0_0 a0_1 a0_2).bind fun r=>κ (spec_l06Var.e r).1 (spec_l06Var.e r).2.1 (spec_l06Var.e r).2.2
 | _,_=>none
theorem spec_l06Var.xok (k : Nat) : XOk 44 (spec_l06Var.x k):=by
 intro ins bs κ res h;unfold spec_l06Var.x at h
 split at h
 ·obtain ⟨r,hr,h⟩:=Option.bind_eq_some_iff.1 h;exact ⟨_,_,_,spec_l06Var.con k _ _ _ r hr,h⟩
 cases h
def spec_PageOk.sp : Nat → Option (Spec Ty):=fun r=>none
def spec_PageOk.en : Option (Spec Ty):=none
def spec_PageOk.ctx (k : Nat) : Ctx Ty D:=(cons 42 (spec_l01In.x k) (fun _ _ _ _=>none))
def spec_PageOk.f (k : Nat) (a0_0 : Int) (a0_1 : Int) (a0_2 : Int) (a0_3 : Int) (a0_4 : Int) (a0_5 : ByteArray) : Option (Bool):=((spec_l01In.f k a0_0 1 2).bind fun t1=>(if t1 = true then ((spec_l01In.f k a0_1 1 1000000000).bind fun t2=>(if t2 = true then ((spec_l01In.f k a0_2 1 1000000000).bind fun t3=>(if t3 = true then ((spec_l01In.f k a0_4 1 9).bind fun t4=>(if t4 = true then ((spec_l01In.f k a0_3 0 (w64 (a0_4 - 1))).bind fun t5=>(if t5 = true then (if (a0_5.size : Int) > 90 then (some (false)) else (if a0_0 = 2 then (some (true)) else (some ((decide (a0_4 = 1)))))) else (some (false)))) else (some (false)))) else (some (false)))) else (some (false)))) else (some (false))))
def spec_PageOk.e (r : Bool) : Res Ty D:=(.sc (.bool r),[],[])
abbrev spec_PageOk.g (rec : List Item → St Ty D → R) (k : Nat):=go1 Tryz.f71 (spec_PageOk.ctx k) spec_PageOk.sp 0 spec_PageOk.en rec
theorem spec_PageOk.te (rec : List Item → St Ty D → R) (k : Nat) (a0_0 : Int) (a0_1 : Int) (a0_2 : Int) (a0_3 : Int) (a0_4 : Int) (a0_5 : ByteArray) : spec_PageOk.g rec k [.code (body Tryz.f71)] (startSt [.ag [.sc (.int .i64 a0_0),.sc (.int .i64 a0_1),.sc (.int .i64 a0_2),.sc (.int .i64 a0_3),.sc (.int .i64 a0_4),.sc (.string a0_5)]] []) =
 (spec_l01In.f k a0_0 1 2).bind fun t1=>bif !t1 then some (spec_PageOk.e (false)) else (spec_l01In.f k a0_1 1 1000000000).bind fun t2=>bif !t2 then some (spec_PageOk.e (false)) else (spec_l01In.f k a0_2 1 1000000000).bind fun t3=>bif !t3 then some (spec_PageOk.e (false)) else (spec_l01In.f k a0_4 1 9).bind fun t4=>bif !t4 then some (spec_PageOk.e (false)) else (spec_l01In.f k a0_3 0 (w64 (a0_4 - 1))).bind fun t5=>bif !t5 then some (spec_PageOk.e (false)) else bif decide ((a0_5.size : Int) > 90) then some (spec_PageOk.e (false)) else bif decide (a0_0 = 2) then some (spec_PageOk.e (true)) else some (spec_PageOk.e ((decide (a0_4 = 1)))):=by kernel_rfl
theorem spec_PageOk.oke (k : Nat) (a0_0 : Int) (a0_1 : Int) (a0_2 : Int) (a0_3 : Int) (a0_4 : Int) (a0_5 : ByteArray) : goF Tryz.f71 spec_PageOk.ctx spec_PageOk.sp 0 spec_PageOk.en (k + 1) [.code (body Tryz.f71)] (startSt [.ag [.sc (.int .i64 a0_0),.sc (.int .i64 a0_1),.sc (.int .i64 a0_2),.sc (.int .i64 a0_3),.sc (.int .i64 a0_4),.sc (.string a0_5)]] []) = (spec_PageOk.f k a0_0 a0_1 a0_2 a0_3 a0_4 a0_5).map spec_PageOk.e:=by
 rw [spec_PageOk.f];exact (spec_PageOk.te _ k a0_0 a0_1 a0_2 a0_3 a0_4 a0_5).trans (bn (fun t1=>(nb rfl (bn (fun t2=>(nb rfl (bn (fun t3=>(nb rfl (bn (fun t4=>(nb rfl (bn (fun t5=>(nb rfl (cd rfl (cd rfl rfl)))))))))))))))))
theorem spec_PageOk.con (k : Nat) (a0_0 : Int) (a0_1 : Int) (a0_2 : Int) (a0_3 : Int) (a0_4 : Int) (a0_5 : ByteArray) (r) (h : spec_PageOk.f k a0_0 a0_1 a0_2 a0_3 a0_4 a0_5 = some r) : Contract Tryz.prog kit 71 [.ag [.sc (.int .i64 a0_0),.sc (.int .i64 a0_1),.sc (.int .i64 a0_2),.sc (.int .i64 a0_3),.sc (.int .i64 a0_4),.sc (.string a0_5)]] [] (spec_PageOk.e r).1 (spec_PageOk.e r).2.1 (spec_PageOk.e r).2.2 :=
 con_okG kitOk mix (fun k=>(CtxOk.cons (spec_l01In.xok k) CtxOk.nil)) (spec_PageOk.oke k a0_0 a0_1 a0_2 a0_3 a0_4 a0_5) h (by kernel_rfl) (by kernel_rfl) (by kernel_rfl) rfl (by kernel_rfl) rfl rfl
def spec_PageOk.x (k : Nat) : X:=fun ins bs κ=>match ins,bs with
 | [.ag [.sc (.int .i64 a0_0),.sc (.int .i64 a0_1),.sc (.int .i64 a0_2),.sc (.int .i64 a0_3),.sc (.int .i64 a0_4),.sc (.string a0_5)]],[]=>(spec_PageOk.f k a0_0 a0_1 a0_2 a0_3 a0_4 a0_5).bind fun r=>κ (spec_PageOk.e r).1 (spec_PageOk.e r).2.1 (spec_PageOk.e r).2.2
 | _,_=>none
theorem spec_PageOk.xok (k : Nat) : XOk 71 (spec_PageOk.x k):=by
 intro ins bs κ res h;unfold spec_PageOk.x at h
 split at h
 ·obtain ⟨r,hr,h⟩:=Option.bind_eq_some_iff.1 h;exact ⟨_,_,_,spec_PageOk.con k _ _ _ _ _ _ r hr,h⟩
 cases h
def spec_Sealed.sp : Nat → Option (Spec Ty):=fun r=>none
def spec_Sealed.en : Option (Spec Ty):=none
def spec_Sealed.ctx (k : Nat) : Ctx Ty D:=(cons 68 (spec_l02Four.x k) (cons 69 (spec_SumOf.x k) (fun _ _ _ _=>none)))
def spec_Sealed.f (k : Nat) (a0 : ByteArray) : Option (ByteArray × Bool):=(if (a0.size : Int) > 20000 then (some ((⟨#[]⟩ : ByteArray),false)) else ((spec_SumOf.f k a0).bind fun t1=>((spec_l02Four.f k t1).bind fun t2=>(if a0.size + t2.size ≤ 9223372036854775807 then (some ((a0 ++ t2),true)) else none))))
def spec_Sealed.e (r : ByteArray × Bool) : Res Ty D:=(.tu [.sc (.string r.1),.sc (.bool r.2)],[],[])
abbrev spec_Sealed.g (rec : List Item → St Ty D → R) (k : Nat):=go1 Tryz.f72 (spec_Sealed.ctx k) spec_Sealed.sp 0 spec_Sealed.en rec
theorem spec_Sealed.te (rec : List Item → St Ty D → R) (k : Nat) (a0 : ByteArray) : spec_Sealed.g rec k [.code (body Tryz.f72)] (startSt [.sc (.string a0)] []) =
 bif decide ((a0.size : Int) > 20000) then some (spec_Sealed.e ((⟨#[]⟩ : ByteArray),false)) else (spec_SumOf.f k a0).bind fun t1=>(spec_l02Four.f k t1).bind fun t2=>bif decide (a0.size + t2.size ≤ 9223372036854775807) then some (spec_Sealed.e ((a0 ++ t2),true)) else none:=by kernel_rfl
theorem spec_Sealed.oke (k : Nat) (a0 : ByteArray) : goF Tryz.f72 spec_Sealed.ctx spec_Sealed.sp 0 spec_Sealed.en (k + 1) [.code (body Tryz.f72)] (startSt [.sc (.string a0)] []) = (spec_Sealed.f k a0).map spec_Sealed.e:=by
 rw [spec_Sealed.f];exact (spec_Sealed.te _ k a0).trans (cd rfl (bn (fun t1=>(bn (fun t2=>(cd rfl rfl))))))
theorem spec_Sealed.con (k : Nat) (a0 : ByteArray) (r) (h : spec_Sealed.f k a0 = some r) : Contract Tryz.prog kit 72 [.sc (.string a0)] [] (spec_Sealed.e r).1 (spec_Sealed.e r).2.1 (spec_Sealed.e r).2.2 :=
 con_okG kitOk mix (fun k=>(CtxOk.cons (spec_l02Four.xok k) (CtxOk.cons (spec_SumOf.xok k) CtxOk.nil))) (spec_Sealed.oke k a0) h (by kernel_rfl) (by kernel_rfl) (by kernel_rfl) rfl (by kernel_rfl) rfl rfl
def spec_Sealed.x (k : Nat) : X:=fun ins bs κ=>match ins,bs with
 | [.sc (.string a0)],[]=>(spec_Sealed.f k a0).bind fun r=>κ (spec_Sealed.e r).1 (spec_Sealed.e r).2.1 (spec_Sealed.e r).2.2
 | _,_=>none
theorem spec_Sealed.xok (k : Nat) : XOk 72 (spec_Sealed.x k):=by
 intro ins bs κ res h;unfold spec_Sealed.x at h
 split at h
 ·obtain ⟨r,hr,h⟩:=Option.bind_eq_some_iff.1 h;exact ⟨_,_,_,spec_Sealed.con k _ r hr,h⟩
 cases h
def spec_l06Byte.sp : Nat → Option (Spec Ty):=fun r=>none
def spec_l06Byte.en : Option (Spec Ty):=none
def spec_l06Byte.ctx (k : Nat) : Ctx Ty D:=(fun _ _ _ _=>none)
def spec_l06Byte.f (k : Nat) (a0 : Int) : Option (ByteArray):=(some ((strOfNums ([(Go.IntKind.wrap .u8 (a0))] : List Int))))
def spec_l06Byte.e (r : ByteArray) : Res Ty D:=(.sc (.string r),[],[])
abbrev spec_l06Byte.g (rec : List Item → St Ty D → R) (k : Nat):=go1 Tryz.f73 (spec_l06Byte.ctx k) spec_l06Byte.sp 0 spec_l06Byte.en rec
theorem spec_l06Byte.te (rec : List Item → St Ty D → R) (k : Nat) (a0 : Int) : spec_l06Byte.g rec k [.code (body Tryz.f73)] (startSt [.sc (.int .i64 a0)] []) =
 some (spec_l06Byte.e ((strOfNums ([(Go.IntKind.wrap .u8 (a0))] : List Int)))):=by kernel_rfl
theorem spec_l06Byte.oke (k : Nat) (a0 : Int) : goF Tryz.f73 spec_l06Byte.ctx spec_l06Byte.sp 0 spec_l06Byte.en (k + 1) [.code (body Tryz.f73)] (startSt [.sc (.int .i64 a0)] []) = (spec_l06Byte.f k a0).map spec_l06Byte.e:=by
 rw [spec_l06Byte.f];exact (spec_l06Byte.te _ k a0).trans rfl
theorem spec_l06Byte.con (k : Nat) (a0 : Int) (r) (h : spec_l06Byte.f k a0 = some r) : Contract Tryz.prog kit 73 [.sc (.int .i64 a0)] [] (spec_l06Byte.e r).1 (spec_l06Byte.e r).2.1 (spec_l06Byte.e r).2.2 :=
 con_okG kitOk mix (fun k=>CtxOk.nil) (spec_l06Byte.oke k a0) h (by kernel_rfl) (by kernel_rfl) (by kernel_rfl) rfl (by kernel_rfl) rfl rfl
def spec_l06Byte.x (k : Nat) : X:=fun ins bs κ=>match ins,bs with
 | [.sc (.int .i64 a0)],[]=>(spec_l06Byte.f k a0).bind fun r=>κ (spec_l06Byte.e r).1 (spec_l06Byte.e r).2.1 (spec_l06Byte.e r).2.2
 | _,_=>none
theorem spec_l06Byte.xok (k : Nat) : XOk 73 (spec_l06Byte.x k):=by
 intro ins bs κ res h;unfold spec_l06Byte.x at h
 split at h
 ·obtain ⟨r,hr,h⟩:=Option.bind_eq_some_iff.1 h;exact ⟨_,_,_,spec_l06Byte.con k _ r hr,h⟩
 cases h
def spec_PageText.sp : Nat → Option (Spec Ty):=fun r=>none
def spec_PageText.en : Option (Spec Ty):=none
def spec_PageText.ctx (k : Nat) : Ctx Ty D:=(cons 71 (spec_PageOk.x k) (cons 72 (spec_Sealed.x k) (cons 73 (spec_l06Byte.x k) (cons 74 (spec_l01Var.x k) (fun _ _ _ _=>none)))))
def spec_PageText.f (k : Nat) (a0_0 : Int) (a0_1 : Int) (a0_2 : Int) (a0_3 : Int) (a0_4 : Int) (a0_5 : ByteArray) : Option (ByteArray × Bool):=((spec_PageOk.f k a0_0 a0_1 a0_2 a0_3 a0_4 a0_5).bind fun t1=>(if t1 = true then ((spec_l06Byte.f k a0_0).bind fun t2=>((spec_l01Var.f k a0_1).bind fun t3=>(if t2.size + t3.size ≤ 9223372036854775807 then ((spec_l01Var.f k a0_2).bind fun t4=>(if (t2 ++ t3).size + t4.size ≤ 9223372036854775807 then ((spec_l01Var.f k a0_3).bind fun t5=>(if ((t2 ++ t3) ++ t4).size + t5.size ≤ 9223372036854775807 then ((spec_l01Var.f k a0_4).bind fun t6=>(if (((t2 ++ t3) ++ t4) ++ t5).size + t6.size ≤ 9223372036854775807 then (if ((((t2 ++ t3) ++ t4) ++ t5) ++ t6).size + a0_5.size ≤ 9223372036854775807 then ((spec_Sealed.f k (((((t2 ++ t3) ++ t4) ++ t5) ++ t6) ++ a0_5)).bind fun t7=>(some (t7.1,t7.2))) else none) else none)) else none)) else none)) else none))) else (some ((⟨#[]⟩ : ByteArray),false))))
def spec_PageText.e (r : ByteArray × Bool) : Res Ty D:=(.tu [.sc (.string r.1),.sc (.bool r.2)],[],[])
abbrev spec_PageText.g (rec : List Item → St Ty D → R) (k : Nat):=go1 Tryz.f45 (spec_PageText.ctx k) spec_PageText.sp 0 spec_PageText.en rec
theorem spec_PageText.te (rec : List Item → St Ty D → R) (k : Nat) (a0_0 : Int) (a0_1 : Int) (a0_2 : Int) (a0_3 : Int) (a0_4 : Int) (a0_5 : ByteArray) : spec_PageText.g rec k [.code (body Tryz.f45)] (startSt [.ag [.sc (.int .i64 a0_0),.sc (.int .i64 a0_1),.sc (.int .i64 a0_2),.sc (.int .i64 a0_3),.sc (.int .i64 a0_4),.sc (.string a0_5)]] []) =
 (spec_PageOk.f k a0_0 a0_1 a0_2 a0_3 a0_4 a0_5).bind fun t1=>bif !t1 then some (spec_PageText.e ((⟨#[]⟩ : ByteArray),false)) else (spec_l06Byte.f k a0_0).bind fun t2=>(spec_l01Var.f k a0_1).bind fun t3=>bif decide (t2.size + t3.size ≤ 9223372036854775807) then (spec_l01Var.f k a0_2).bind fun t4=>bif decide ((t2 ++ t3).size + t4.size ≤ 9223372036854775807) then (spec_l01Var.f k a0_3).bind fun t5=>bif decide (((t2 ++ t3) ++ t4).size + t5.size ≤ 9223372036854775807) then (spec_l01Var.f k a0_4).bind fun t6=>bif decide ((((t2 ++ t3) ++ t4) ++ t5).size + t6.size ≤ 9223372036854775807) then bif decide (((((t2 ++ t3) ++ t4) ++ t5) ++ t6).size + a0_5.size ≤ 9223372036854775807) then (spec_Sealed.f k (((((t2 ++ t3) ++ t4) ++ t5) ++ t6) ++ a0_5)).bind fun t7=>some (spec_PageText.e (t7.1,t7.2)) else none else none else none else none else none:=by kernel_rfl
theorem spec_PageText.oke (k : Nat) (a0_0 : Int) (a0_1 : Int) (a0_2 : Int) (a0_3 : Int) (a0_4 : Int) (a0_5 : ByteArray) : goF Tryz.f45 spec_PageText.ctx spec_PageText.sp 0 spec_PageText.en (k + 1) [.code (body Tryz.f45)] (startSt [.ag [.sc (.int .i64 a0_0),.sc (.int .i64 a0_1),.sc (.int .i64 a0_2),.sc (.int .i64 a0_3),.sc (.int .i64 a0_4),.sc (.string a0_5)]] []) = (spec_PageText.f k a0_0 a0_1 a0_2 a0_3 a0_4 a0_5).map spec_PageText.e:=by
 rw [spec_PageText.f];exact (spec_PageText.te _ k a0_0 a0_1 a0_2 a0_3 a0_4 a0_5).trans (bn (fun t1=>(nb rfl (bn (fun t2=>(bn (fun t3=>(cd (bn (fun t4=>(cd (bn (fun t5=>(cd (bn (fun t6=>(cd (cd (bn (fun t7=>rfl)) rfl) rfl))) rfl))) rfl))) rfl))))))))
theorem spec_PageText.con (k : Nat) (a0_0 : Int) (a0_1 : Int) (a0_2 : Int) (a0_3 : Int) (a0_4 : Int) (a0_5 : ByteArray) (r) (h : spec_PageText.f k a0_0 a0_1 a0_2 a0_3 a0_4 a0_5 = some r) : Contract Tryz.prog kit 45 [.ag [.sc (.int .i64 a0_0),.sc (.int .i64 a0_1),.sc (.int .i64 a0_2),.sc (.int .i64 a0_3),.sc (.int .i64 a0_4),.sc (.string a0_5)]] [] (spec_PageText.e r).1 (spec_PageText.e r).2.1 (spec_PageText.e r).2.2 :=
 con_okG kitOk mix (fun k=>(CtxOk.cons (spec_PageOk.xok k) (CtxOk.cons (spec_Sealed.xok k) (CtxOk.cons (spec_l06Byte.xok k) (CtxOk.cons (spec_l01Var.xok k) CtxOk.nil))))) (spec_PageText.oke k a0_0 a0_1 a0_2 a0_3 a0_4 a0_5) h (by kernel_rfl) (by kernel_rfl) (by kernel_rfl) rfl (by kernel_rfl) rfl rfl
def spec_PageText.x (k : Nat) : X:=fun ins bs κ=>match ins,bs with
 | [.ag [.sc (.int .i64 a0_0),.sc (.int .i64 a0_1),.sc (.int .i64 a0_2),.sc (.int .i64 a0_3),.sc (.int .i64 a0_4),.sc (.string a0_5)]],[]=>(spec_PageText.f k a0_0 a0_1 a0_2 a0_3 a0_4 a0_5).bind fun r=>κ (spec_PageText.e r).1 (spec_PageText.e r).2.1 (spec_PageText.e r).2.2
 | _,_=>none
theorem spec_PageText.xok (k : Nat) : XOk 45 (spec_PageText.x k):=by
 intro ins bs κ res h;unfold spec_PageText.x at h
 split at h
 ·obtain ⟨r,hr,h⟩:=Option.bind_eq_some_iff.1 h;exact ⟨_,_,_,spec_PageText.con k _ _ _ _ _ _ r hr,h⟩
 cases h
def spec_ReadPage.sp : Nat → Option (Spec Ty):=fun r=>none
def spec_ReadPage.en : Option (Spec Ty):=none
def spec_ReadPage.ctx (k : Nat) : Ctx Ty D:=(cons 43 (spec_Unsealed.x k) (cons 44 (spec_l06Var.x k) (cons 45 (spec_PageText.x k) (fun _ _ _ _=>none))))
def spec_ReadPage.f (k : Nat) (a0 : ByteArray) : Option (Int × Int × Int × Int × Int × ByteArray × Bool):=((spec_Unsealed.f k a0).bind fun t1=>(if t1.2 = true then ((spec_l06Var.f k t1.1 1 (decide ((t1.1.size : Int) < 1))).bind fun t7=>((spec_l06Var.f k t7.2.1 t7.2.2.1 t7.2.2.2).bind fun t8=>((spec_l06Var.f k t8.2.1 t8.2.2.1 t8.2.2.2).bind fun t9=>((spec_l06Var.f k t9.2.1 t9.2.2.1 t9.2.2.2).bind fun t10=>(if t10.2.2.2 = true then (some (0,0,0,0,0,(⟨#[]⟩ : ByteArray),false)) else (if 0 < (t1.1.size : Int) then (if 0 ≤ t10.2.2.1 then (if t10.2.2.1 ≤ (t1.1.size : Int) then ((spec_PageText.f k (w64 ((bt t1.1 0))) t7.1 t8.1 t9.1 t10.1 (t1.1.extract t10.2.2.1.toNat t1.1.size)).bind fun t11=>(if t11.2 = true then (if (seq t11.1 a0) = true then (some ((w64 ((bt t1.1 0))),t7.1,t8.1,t9.1,t10.1,(t1.1.extract t10.2.2.1.toNat t1.1.size),true)) else (some (0,0,0,0,0,(⟨#[]⟩ : ByteArray),false))) else (some (0,0,0,0,0,(⟨#[]⟩ : ByteArray),false)))) else none) else none) else none)))))) else ((spec_l06Var.f k t1.1 1 true).bind fun t2=>((spec_l06Var.f k t2.2.1 t2.2.2.1 t2.2.2.2).bind fun t3=>((spec_l06Var.f k t3.2.1 t3.2.2.1 t3.2.2.2).bind fun t4=>((spec_l06Var.f k t4.2.1 t4.2.2.1 t4.2.2.2).bind fun t5=>(if t5.2.2.2 = true then (some (0,0,0,0,0,(⟨#[]⟩ : ByteArray),false)) else (if 0 < (t1.1.size : Int) then (if 0 ≤ t5.2.2.1 then (if t5.2.2.1 ≤ (t1.1.size : Int) then ((spec_PageText.f k (w64 ((bt t1.1 0))) t2.1 t3.1 t4.1 t5.1 (t1.1.extract t5.2.2.1.toNat t1.1.size)).bind fun t6=>(if t6.2 = true then (if (seq t6.1 a0) = true then (some ((w64 ((bt t1.1 0))),t2.1,t3.1,t4.1,t5.1,(t1.1.extract t5.2.2.1.toNat t1.1.size),true)) else (some (0,0,0,0,0,(⟨#[]⟩ : ByteArray),false))) else (some (0,0,0,0,0,(⟨#[]⟩ : ByteArray),false)))) else none) else none) else none))))))))
def spec_ReadPage.e (r : Int × Int × Int × Int × Int × ByteArray × Bool) : Res Ty D:=(.tu [.ag [.sc (.int .i64 r.1),.sc (.int .i64 r.2.1),.sc (.int .i64 r.2.2.1),.sc (.int .i64 r.2.2.2.1),.sc (.int .i64 r.2.2.2.2.1),.sc (.string r.2.2.2.2.2.1)],.sc (.bool r.2.2.2.2.2.2)],[],[])
abbrev spec_ReadPage.g (rec : List Item → St Ty D → R) (k : Nat):=go1 Tryz.f27 (spec_ReadPage.ctx k) spec_ReadPage.sp 0 spec_ReadPage.en rec
theorem spec_ReadPage.te (rec : List Item → St Ty D → R) (k : Nat) (a0 : ByteArray) : spec_ReadPage.g rec k [.code (body Tryz.f27)] (startSt [.sc (.string a0)] []) =
 (spec_Unsealed.f k a0).bind fun t1=>bif !t1.2 then (spec_l06Var.f k t1.1 1 true).bind fun t2=>(spec_l06Var.f k t2.2.1 t2.2.2.1 t2.2.2.2).bind fun t3=>(spec_l06Var.f k t3.2.1 t3.2.2.1 t3.2.2.2).bind fun t4=>(spec_l06Var.f k t4.2.1 t4.2.2.1 t4.2.2.2).bind fun t5=>bif t5.2.2.2 then some (spec_ReadPage.e (0,0,0,0,0,(⟨#[]⟩ : ByteArray),false)) else bif decide (0 < (t1.1.size : Int)) then bif decide (0 ≤ t5.2.2.1) then bif decide (t5.2.2.1 ≤ (t1.1.size : Int)) then (spec_PageText.f k (w64 ((bt t1.1 0))) t2.1 t3.1 t4.1 t5.1 (t1.1.extract t5.2.2.1.toNat t1.1.size)).bind fun t6=>bif !t6.2 then some (spec_ReadPage.e (0,0,0,0,0,(⟨#[]⟩ : ByteArray),false)) else bif !(seq t6.1 a0) then some (spec_ReadPage.e (0,0,0,0,0,(⟨#[]⟩ : ByteArray),false)) else some (spec_ReadPage.e ((w64 ((bt t1.1 0))),t2.1,t3.1,t4.1,t5.1,(t1.1.extract t5.2.2.1.toNat t1.1.size),true)) else none else none else none else (spec_l06Var.f k t1.1 1 (decide ((t1.1.size : Int) < 1))).bind fun t7=>(spec_l06Var.f k t7.2.1 t7.2.2.1 t7.2.2.2).bind fun t8=>(spec_l06Var.f k t8.2.1 t8.2.2.1 t8.2.2.2).bind fun t9=>(spec_l06Var.f k t9.2.1 t9.2.2.1 t9.2.2.2).bind fun t10=>bif t10.2.2.2 then some (spec_ReadPage.e (0,0,0,0,0,(⟨#[]⟩ : ByteArray),false)) else bif decide (0 < (t1.1.size : Int)) then bif decide (0 ≤ t10.2.2.1) then bif decide (t10.2.2.1 ≤ (t1.1.size : Int)) then (spec_PageText.f k (w64 ((bt t1.1 0))) t7.1 t8.1 t9.1 t10.1 (t1.1.extract t10.2.2.1.toNat t1.1.size)).bind fun t11=>bif !t11.2 then some (spec_ReadPage.e (0,0,0,0,0,(⟨#[]⟩ : ByteArray),false)) else bif !(seq t11.1 a0) then some (spec_ReadPage.e (0,0,0,0,0,(⟨#[]⟩ : ByteArray),false)) else some (spec_ReadPage.e ((w64 ((bt t1.1 0))),t7.1,t8.1,t9.1,t10.1,(t1.1.extract t10.2.2.1.toNat t1.1.size),true)) else none else none else none:=by kernel_rfl
theorem spec_ReadPage.oke (k : Nat) (a0 : ByteArray) : goF Tryz.f27 spec_ReadPage.ctx spec_ReadPage.sp 0 spec_ReadPage.en (k + 1) [.code (body Tryz.f27)] (startSt [.sc (.string a0)] []) = (spec_ReadPage.f k a0).map spec_ReadPage.e:=by
 rw [spec_ReadPage.f];exact (spec_ReadPage.te _ k a0).trans (bn (fun t1=>(nb (bn (fun t2=>(bn (fun t3=>(bn (fun t4=>(bn (fun t5=>(cb rfl (cd (cd (cd (bn (fun t6=>(nb rfl (nb rfl rfl)))) rfl) rfl) rfl)))))))))) (bn (fun t7=>(bn (fun t8=>(bn (fun t9=>(bn (fun t10=>(cb rfl (cd (cd (cd (bn (fun t11=>(nb rfl (nb rfl rfl)))) rfl) rfl) rfl)))))))))))))
theorem spec_ReadPage.con (k : Nat) (a0 : ByteArray) (r) (h : spec_ReadPage.f k a0 = some r) : Contract Tryz.prog kit 27 [.sc (.string a0)] [] (spec_ReadPage.e r).1 (spec_ReadPage.e r).2.1 (spec_ReadPage.e r).2.2 :=
 con_okG kitOk mix (fun k=>(CtxOk.cons (spec_Unsealed.xok k) (CtxOk.cons (spec_l06Var.xok k) (CtxOk.cons (spec_PageText.xok k) CtxOk.nil)))) (spec_ReadPage.oke k a0) h (by kernel_rfl) (by kernel_rfl) (by kernel_rfl) rfl (by kernel_rfl) rfl rfl
def spec_ReadPage.x (k : Nat) : X:=fun ins bs κ=>match ins,bs with
 | [.sc (.string a0)],[]=>(spec_ReadPage.f k a0).bind fun r=>κ (spec_ReadPage.e r).1 (spec_ReadPage.e r).2.1 (spec_ReadPage.e r).2.2
 | _,_=>none
theorem spec_ReadPage.xok (k : Nat) : XOk 27 (spec_ReadPage.x k):=by
 intro ins bs κ res h;unfold spec_ReadPage.x at h
 split at h
 ·obtain ⟨r,hr,h⟩:=Option.bind_eq_some_iff.1 h;exact ⟨_,_,_,spec_ReadPage.con k _ r hr,h⟩
 cases h
end
end Go.Proofs.YtbbfkodckpfjcaaGreat.M2

namespace Go.Proofs.YtbbfkodckpfjcaaGreat.M2
open Go Go.Proofs.YtbbfkodckpfjcaaGreat.PK
set_option linter.unusedVariables false
set_option linter.unusedSimpArgs false
set_option maxHeartbeats 4000000
set_option maxRecDepth 100000
noncomputable section
def spec_ScanAll.sp : Nat → Option (Spec Ty):=fun r=>bif Nat.beq r 3 then some ⟨[(1,.box [.keep]),(3,.own .t75),(4,.keep)],[]⟩ else bif Nat.beq r 6 then some ⟨[(1,.box [.keep]),(3,.own .t75),(4,.keep),(5,.keep)],[]⟩ else bif Nat.beq r 13 then some ⟨[(3,.own .t75),(10,.keep)],[]⟩ else bif Nat.beq r 16 then some ⟨[(3,.own .t75),(10,.keep),(11,.keep)],[]⟩ else none
def spec_ScanAll.en : Option (Spec Ty):=some ⟨[(2,.own .t75)],[]⟩
def spec_ScanAll.s3 (x4 : Int) (h64_0 : List S68) (h65 : List S75) : St Ty D:=⟨(Env.put (Env.put (Env.put E (some 1) (.pt 64 0 0)) (some 3) (.sl 65 none)) (some 4) (.sc (.int .i64 x4))),Heap.put H0 [(64,some (.box [.row 0 .t68 h64_0])),(65,some (.rowb .t75 h65 0))],1000⟩
def spec_ScanAll.s6 (x4 : Int) (x5 : Int) (h64_0 : List S68) (h65 : List S75) : St Ty D:=⟨(Env.put (Env.put (Env.put (Env.put E (some 1) (.pt 64 0 0)) (some 3) (.sl 65 none)) (some 4) (.sc (.int .i64 x4))) (some 5) (.sc (.int .i64 x5))),Heap.put H0 [(64,some (.box [.row 0 .t68 h64_0])),(65,some (.rowb .t75 h65 0))],1000⟩
def spec_ScanAll.s13 (x10 : Int) (h64 : List S75) : St Ty D:=⟨(Env.put (Env.put E (some 3) (.sl 64 none)) (some 10) (.sc (.int .i64 x10))),Heap.put H0 [(64,some (.rowb .t75 h64 0))],1000⟩
def spec_ScanAll.s16 (x10 : Int) (x11 : Int) (h64 : List S75) : St Ty D:=⟨(Env.put (Env.put (Env.put E (some 3) (.sl 64 none)) (some 10) (.sc (.int .i64 x10))) (some 11) (.sc (.int .i64 x11))),Heap.put H0 [(64,some (.rowb .t75 h64 0))],1000⟩
def spec_ScanAll.ctx (k : Nat) : Ctx Ty D:=(cons 26 (spec_ReadLeaf.x k) (cons 27 (spec_ReadPage.x k) (fun _ _ _ _=>none)))
mutual
def spec_ScanAll.c3 : Nat → Int → (List S68) → (List S75) → Option ((List S75))
 | 0,_,_,_=>none
 | k + 1,x4,h64_0,h65=>(if x4 < (h64_0.length : Int) then (spec_ScanAll.c6 k x4 0 h64_0 h65) else (spec_ScanAll.c13 k 1 h65))
def spec_ScanAll.c6 : Nat → Int → Int → (List S68) → (List S75) → Option ((List S75))
 | 0,_,_,_,_=>none
 | k + 1,x4,x5,h64_0,h65=>(if 0 ≤ x4 then (if x4 < (h64_0.length : Int) then (if x5 < (((rd_T68 h64_0 x4).f2).length : Int) then ((spec_ReadLeaf.f k h64_0 x4 x5).bind fun t1=>((spec_ReadPage.f k t1.1).bind fun t2=>(if t1.2 = true then (if t2.2.2.2.2.2.2 = true then (if h65.length + ([(S75.mk x4 x5 (S71.mk t2.1 t2.2.1 t2.2.2.1 t2.2.2.2.1 t2.2.2.2.2.1 t2.2.2.2.2.2.1))] : List S75).length ≤ 1954687338268 then (spec_ScanAll.c6 k x4 (w64 (x5 + 1)) h64_0 (h65 ++ ([(S75.mk x4 x5 (S71.mk t2.1 t2.2.1 t2.2.2.1 t2.2.2.2.1 t2.2.2.2.2.1 t2.2.2.2.2.2.1))] : List S75))) else none) else (spec_ScanAll.c6 k x4 (w64 (x5 + 1)) h64_0 h65)) else (spec_ScanAll.c6 k x4 (w64 (x5 + 1)) h64_0 h65)))) else (spec_ScanAll.c3 k (w64 (x4 + 1)) h64_0 h65)) else none) else none)
def spec_ScanAll.c13 : Nat → Int → (List S75) → Option ((List S75))
 | 0,_,_=>none
 | k + 1,x10,h64=>(if x10 < (h64.length : Int) then (spec_ScanAll.c16 k x10 x10 h64) else (some (h64)))
def spec_ScanAll.c16 : Nat → Int → Int → (List S75) → Option ((List S75))
 | 0,_,_,_=>none
 | k + 1,x10,x11,h64=>(if x11 > 0 then (if 0 ≤ (w64 (x11 - 1)) then (if (w64 (x11 - 1)) < (h64.length : Int) then (if 0 ≤ x11 then (if x11 < (h64.length : Int) then (if ((rd_T75 h64 (w64 (x11 - 1))).f2.f1) > ((rd_T75 h64 x11).f2.f1) then (if 0 ≤ x11 then (if x11 < (h64.length : Int) then (if 0 ≤ (w64 (x11 - 1)) then (if (w64 (x11 - 1)) < (h64.length : Int) then (if 0 ≤ x11 then (if x11 < (h64.length : Int) then (if 0 ≤ (w64 (x11 - 1)) then (if (w64 (x11 - 1)) < ((h64.set x11.toNat (S75.mk ((rd_T75 h64 (w64 (x11 - 1))).f0) ((rd_T75 h64 (w64 (x11 - 1))).f1) (S71.mk ((rd_T75 h64 (w64 (x11 - 1))).f2.f0) ((rd_T75 h64 (w64 (x11 - 1))).f2.f1) ((rd_T75 h64 (w64 (x11 - 1))).f2.f2) ((rd_T75 h64 (w64 (x11 - 1))).f2.f3) ((rd_T75 h64 (w64 (x11 - 1))).f2.f4) ((rd_T75 h64 (w64 (x11 - 1))).f2.f5)))).length : Int) then (spec_ScanAll.c16 k x10 (w64 (x11 - 1)) ((h64.set x11.toNat (S75.mk ((rd_T75 h64 (w64 (x11 - 1))).f0) ((rd_T75 h64 (w64 (x11 - 1))).f1) (S71.mk ((rd_T75 h64 (w64 (x11 - 1))).f2.f0) ((rd_T75 h64 (w64 (x11 - 1))).f2.f1) ((rd_T75 h64 (w64 (x11 - 1))).f2.f2) ((rd_T75 h64 (w64 (x11 - 1))).f2.f3) ((rd_T75 h64 (w64 (x11 - 1))).f2.f4) ((rd_T75 h64 (w64 (x11 - 1))).f2.f5)))).set ((w64 (x11 - 1)).toNat) (S75.mk ((rd_T75 h64 x11).f0) ((rd_T75 h64 x11).f1) (S71.mk ((rd_T75 h64 x11).f2.f0) ((rd_T75 h64 x11).f2.f1) ((rd_T75 h64 x11).f2.f2) ((rd_T75 h64 x11).f2.f3) ((rd_T75 h64 x11).f2.f4) ((rd_T75 h64 x11).f2.f5))))) else none) else none) else none) else none) else none) else none) else none) else none) else (spec_ScanAll.c13 k (w64 (x10 + 1)) h64)) else none) else none) else none) else none) else (spec_ScanAll.c13 k (w64 (x10 + 1)) h64))
end
def spec_ScanAll.f (k : Nat) (a0_0 : List S68) : Option ((List S75)):=(spec_ScanAll.c3 k 0 a0_0 ([] : List S75))
def spec_ScanAll.e (r : (List S75)) : Res Ty D:=(.sl 0 none,[],[.rowb .t75 r 0])
abbrev spec_ScanAll.g (rec : List Item → St Ty D → R) (k : Nat):=go1 Tryz.f12 (spec_ScanAll.ctx k) spec_ScanAll.sp 0 spec_ScanAll.en rec
theorem spec_ScanAll.t3 (rec : List Item → St Ty D → R) (k : Nat) (x4 : Int) (h64_0 : List S68) (h65 : List S75) : spec_ScanAll.g rec k (td Tryz.f12 3) (spec_ScanAll.s3 x4 h64_0 h65) =
 bif decide (x4 < (h64_0.length : Int)) then rec (td Tryz.f12 6) (spec_ScanAll.s6 x4 0 h64_0 h65) else rec (td Tryz.f12 13) (spec_ScanAll.s13 1 h65):=by kernel_rfl
theorem spec_ScanAll.t6 (rec : List Item → St Ty D → R) (k : Nat) (x4 : Int) (x5 : Int) (h64_0 : List S68) (h65 : List S75) : spec_ScanAll.g rec k (td Tryz.f12 6) (spec_ScanAll.s6 x4 x5 h64_0 h65) =
 bif decide (0 ≤ x4) then bif decide (x4 < (h64_0.length : Int)) then bif decide (x5 < (((rd_T68 h64_0 x4).f2).length : Int)) then (spec_ReadLeaf.f k h64_0 x4 x5).bind fun t1=>(spec_ReadPage.f k t1.1).bind fun t2=>bif t1.2 then bif t2.2.2.2.2.2.2 then bif decide (h65.length + ([(S75.mk x4 x5 (S71.mk t2.1 t2.2.1 t2.2.2.1 t2.2.2.2.1 t2.2.2.2.2.1 t2.2.2.2.2.2.1))] : List S75).length ≤ 1954687338268) then rec (td Tryz.f12 6) (spec_ScanAll.s6 x4 (w64 (x5 + 1)) h64_0 (h65 ++ ([(S75.mk x4 x5 (S71.mk t2.1 t2.2.1 t2.2.2.1 t2.2.2.2.1 t2.2.2.2.2.1 t2.2.2.2.2.2.1))] : List S75))) else none else rec (td Tryz.f12 6) (spec_ScanAll.s6 x4 (w64 (x5 + 1)) h64_0 h65) else rec (td Tryz.f12 6) (spec_ScanAll.s6 x4 (w64 (x5 + 1)) h64_0 h65) else rec (td Tryz.f12 3) (spec_ScanAll.s3 (w64 (x4 + 1)) h64_0 h65) else none else none:=by kernel_rfl
theorem spec_ScanAll.t13 (rec : List Item → St Ty D → R) (k : Nat) (x10 : Int) (h64 : List S75) : spec_ScanAll.g rec k (td Tryz.f12 13) (spec_ScanAll.s13 x10 h64) =
 bif decide (x10 < (h64.length : Int)) then rec (td Tryz.f12 16) (spec_ScanAll.s16 x10 x10 h64) else some (spec_ScanAll.e (h64)):=by kernel_rfl
theorem spec_ScanAll.t16 (rec : List Item → St Ty D → R) (k : Nat) (x10 : Int) (x11 : Int) (h64 : List S75) : spec_ScanAll.g rec k (td Tryz.f12 16) (spec_ScanAll.s16 x10 x11 h64) =
 bif decide (x11 > 0) then bif decide (0 ≤ (w64 (x11 - 1))) then bif decide ((w64 (x11 - 1)) < (h64.length : Int)) then bif decide (0 ≤ x11) then bif decide (x11 < (h64.length : Int)) then bif decide (((rd_T75 h64 (w64 (x11 - 1))).f2.f1) > ((rd_T75 h64 x11).f2.f1)) then bif decide (0 ≤ x11) then bif decide (x11 < (h64.length : Int)) then bif decide (0 ≤ (w64 (x11 - 1))) then bif decide ((w64 (x11 - 1)) < (h64.length : Int)) then bif decide (0 ≤ x11) then bif decide (x11 < (h64.length : Int)) then bif decide (0 ≤ (w64 (x11 - 1))) then bif decide ((w64 (x11 - 1)) < ((h64.set x11.toNat (S75.mk ((rd_T75 h64 (w64 (x11 - 1))).f0) ((rd_T75 h64 (w64 (x11 - 1))).f1) (S71.mk ((rd_T75 h64 (w64 (x11 - 1))).f2.f0) ((rd_T75 h64 (w64 (x11 - 1))).f2.f1) ((rd_T75 h64 (w64 (x11 - 1))).f2.f2) ((rd_T75 h64 (w64 (x11 - 1))).f2.f3) ((rd_T75 h64 (w64 (x11 - 1))).f2.f4) ((rd_T75 h64 (w64 (x11 - 1))).f2.f5)))).length : Int)) then rec (td Tryz.f12 16) (spec_ScanAll.s16 x10 (w64 (x11 - 1)) ((h64.set x11.toNat (S75.mk ((rd_T75 h64 (w64 (x11 - 1))).f0) ((rd_T75 h64 (w64 (x11 - 1))).f1) (S71.mk ((rd_T75 h64 (w64 (x11 - 1))).f2.f0) ((rd_T75 h64 (w64 (x11 - 1))).f2.f1) ((rd_T75 h64 (w64 (x11 - 1))).f2.f2) ((rd_T75 h64 (w64 (x11 - 1))).f2.f3) ((rd_T75 h64 (w64 (x11 - 1))).f2.f4) ((rd_T75 h64 (w64 (x11 - 1))).f2.f5)))).set ((w64 (x11 - 1)).toNat) (S75.mk ((rd_T75 h64 x11).f0) ((rd_T75 h64 x11).f1) (S71.mk ((rd_T75 h64 x11).f2.f0) ((rd_T75 h64 x11).f2.f1) ((rd_T75 h64 x11).f2.f2) ((rd_T75 h64 x11).f2.f3) ((rd_T75 h64 x11).f2.f4) ((rd_T75 h64 x11).f2.f5))))) else none else none else none else none else none else none else none else none else rec (td Tryz.f12 13) (spec_ScanAll.s13 (w64 (x10 + 1)) h64) else none else none else none else none else rec (td Tryz.f12 13) (spec_ScanAll.s13 (w64 (x10 + 1)) h64):=by kernel_rfl
theorem spec_ScanAll.te (rec : List Item → St Ty D → R) (k : Nat) (a0_0 : List S68) : spec_ScanAll.g rec k [.code (body Tryz.f12)] (startSt [.ag [.row 0 .t68 a0_0]] []) =
 rec (td Tryz.f12 3) (spec_ScanAll.s3 0 a0_0 ([] : List S75)):=by kernel_rfl
theorem spec_ScanAll.ok : ∀ k : Nat,(∀ (x4 : Int) (h64_0 : List S68) (h65 : List S75),goF Tryz.f12 spec_ScanAll.ctx spec_ScanAll.sp 0 spec_ScanAll.en k (td Tryz.f12 3) (spec_ScanAll.s3 x4 h64_0 h65) = (spec_ScanAll.c3 k x4 h64_0 h65).map spec_ScanAll.e) ∧ (∀ (x4 : Int) (x5 : Int) (h64_0 : List S68) (h65 : List S75),goF Tryz.f12 spec_ScanAll.ctx spec_ScanAll.sp 0 spec_ScanAll.en k (td Tryz.f12 6) (spec_ScanAll.s6 x4 x5 h64_0 h65) = (spec_ScanAll.c6 k x4 x5 h64_0 h65).map spec_ScanAll.e) ∧ (∀ (x10 : Int) (h64 : List S75),goF Tryz.f12 spec_ScanAll.ctx spec_ScanAll.sp 0 spec_ScanAll.en k (td Tryz.f12 13) (spec_ScanAll.s13 x10 h64) = (spec_ScanAll.c13 k x10 h64).map spec_ScanAll.e) ∧ (∀ (x10 : Int) (x11 : Int) (h64 : List S75),goF Tryz.f12 spec_ScanAll.ctx spec_ScanAll.sp 0 spec_ScanAll.en k (td Tryz.f12 16) (spec_ScanAll.s16 x10 x11 h64) = (spec_ScanAll.c16 k x10 x11 h64).map spec_ScanAll.e)
 | 0=>⟨fun _ _ _=>rfl,fun _ _ _ _=>rfl,fun _ _=>rfl,fun _ _ _=>rfl⟩
 | k + 1=>by
  have ih:=spec_ScanAll.ok k;obtain ⟨i3,i6,i13,i16⟩:=ih;refine ⟨?_,?_,?_,?_⟩
  ·intro x4 h64_0 h65;rw [spec_ScanAll.c3];exact (spec_ScanAll.t3 _ k x4 h64_0 h65).trans (cd (i6 _ _ _ _) (i13 _ _))
  ·intro x4 x5 h64_0 h65;rw [spec_ScanAll.c6];exact (spec_ScanAll.t6 _ k x4 x5 h64_0 h65).trans (cd (cd (cd (bn (fun t1=>(bn (fun t2=>(cb (cb (cd (i6 _ _ _ _) rfl) (i6 _ _ _ _)) (i6 _ _ _ _)))))) (i3 _ _ _)) rfl) rfl)
  ·intro x10 h64;rw [spec_ScanAll.c13];exact (spec_ScanAll.t13 _ k x10 h64).trans (cd (i16 _ _ _) rfl)
  intro x10 x11 h64;rw [spec_ScanAll.c16];exact (spec_ScanAll.t16 _ k x10 x11 h64).trans (cd (cd (cd (cd (cd (cd (cd (cd (cd (cd (cd (cd (cd (cd (i16 _ _ _) rfl) rfl) rfl) rfl) rfl) rfl) rfl) rfl) (i13 _ _)) rfl) rfl) rfl) rfl) (i13 _ _))
theorem spec_ScanAll.oke (k : Nat) (a0_0 : List S68) : goF Tryz.f12 spec_ScanAll.ctx spec_ScanAll.sp 0 spec_ScanAll.en (k + 1) [.code (body Tryz.f12)] (startSt [.ag [.row 0 .t68 a0_0]] []) = (spec_ScanAll.f k a0_0).map spec_ScanAll.e:=by
 obtain ⟨i3,i6,i13,i16⟩:=spec_ScanAll.ok k;rw [spec_ScanAll.f];exact (spec_ScanAll.te _ k a0_0).trans (i3 _ _ _)
theorem spec_ScanAll.con (k : Nat) (a0_0 : List S68) (r) (h : spec_ScanAll.f k a0_0 = some r) : Contract Tryz.prog kit 12 [.ag [.row 0 .t68 a0_0]] [] (spec_ScanAll.e r).1 (spec_ScanAll.e r).2.1 (spec_ScanAll.e r).2.2 :=
 con_okG kitOk mix (fun k=>(CtxOk.cons (spec_ReadLeaf.xok k) (CtxOk.cons (spec_ReadPage.xok k) CtxOk.nil))) (spec_ScanAll.oke k a0_0) h (by kernel_rfl) (by kernel_rfl) (by kernel_rfl) rfl (by kernel_rfl) rfl rfl
def spec_ScanAll.x (k : Nat) : X:=fun ins bs κ=>match ins,bs with
 | [.ag [.row 0 .t68 a0_0]],[]=>(spec_ScanAll.f k a0_0).bind fun r=>κ (spec_ScanAll.e r).1 (spec_ScanAll.e r).2.1 (spec_ScanAll.e r).2.2
 | _,_=>none
theorem spec_ScanAll.xok (k : Nat) : XOk 12 (spec_ScanAll.x k):=by
 intro ins bs κ res h;unfold spec_ScanAll.x at h
 split at h
 ·obtain ⟨r,hr,h⟩:=Option.bind_eq_some_iff.1 h;exact ⟨_,_,_,spec_ScanAll.con k _ r hr,h⟩
 cases h
def spec_ReadOf.sp : Nat → Option (Spec Ty):=fun r=>none
def spec_ReadOf.en : Option (Spec Ty):=none
def spec_ReadOf.ctx (k : Nat) : Ctx Ty D:=(cons 11 (spec_l15Read.x k) (cons 12 (spec_ScanAll.x k) (fun _ _ _ _=>none)))
def spec_ReadOf.f (k : Nat) (a0_0 : List S68) (a0_1 : List S80) (a0_2 : List S128) (a0_3 : Int) (a0_4 : Int) (a0_5 : Int) (a0_6 : Int) (a1 : Int) (a2 : Int) : Option (ByteArray × Bool):=((spec_ScanAll.f k a0_0).bind fun t1=>((spec_l15Read.f k t1 a0_1 a0_2 a0_3 a1 a2).bind fun t2=>(some (t2.1,t2.2))))
def spec_ReadOf.e (r : ByteArray × Bool) : Res Ty D:=(.tu [.sc (.string r.1),.sc (.bool r.2)],[],[])
abbrev spec_ReadOf.g (rec : List Item → St Ty D → R) (k : Nat):=go1 Tryz.f5 (spec_ReadOf.ctx k) spec_ReadOf.sp 0 spec_ReadOf.en rec
theorem spec_ReadOf.te (rec : List Item → St Ty D → R) (k : Nat) (a0_0 : List S68) (a0_1 : List S80) (a0_2 : List S128) (a0_3 : Int) (a0_4 : Int) (a0_5 : Int) (a0_6 : Int) (a1 : Int) (a2 : Int) : spec_ReadOf.g rec k [.code (body Tryz.f5)] (startSt [.ag [.row 0 .t68 a0_0,.row 0 .t80 a0_1,.row 0 .t128 a0_2,.sc (.int .i64 a0_3),.sc (.int .i64 a0_4),.sc (.int .i64 a0_5),.sc (.int .i64 a0_6)],.sc (.int .i64 a1),.sc (.int .i64 a2)] []) =
 (spec_ScanAll.f k a0_0).bind fun t1=>(spec_l15Read.f k t1 a0_1 a0_2 a0_3 a1 a2).bind fun t2=>some (spec_ReadOf.e (t2.1,t2.2)):=by kernel_rfl
theorem spec_ReadOf.oke (k : Nat) (a0_0 : List S68) (a0_1 : List S80) (a0_2 : List S128) (a0_3 : Int) (a0_4 : Int) (a0_5 : Int) (a0_6 : Int) (a1 : Int) (a2 : Int) : goF Tryz.f5 spec_ReadOf.ctx spec_ReadOf.sp 0 spec_ReadOf.en (k + 1) [.code (body Tryz.f5)] (startSt [.ag [.row 0 .t68 a0_0,.row 0 .t80 a0_1,.row 0 .t128 a0_2,.sc (.int .i64 a0_3),.sc (.int .i64 a0_4),.sc (.int .i64 a0_5),.sc (.int .i64 a0_6)],.sc (.int .i64 a1),.sc (.int .i64 a2)] []) = (spec_ReadOf.f k a0_0 a0_1 a0_2 a0_3 a0_4 a0_5 a0_6 a1 a2).map spec_ReadOf.e:=by
 rw [spec_ReadOf.f];exact (spec_ReadOf.te _ k a0_0 a0_1 a0_2 a0_3 a0_4 a0_5 a0_6 a1 a2).trans (bn (fun t1=>(bn (fun t2=>rfl))))
theorem spec_ReadOf.con (k : Nat) (a0_0 : List S68) (a0_1 : List S80) (a0_2 : List S128) (a0_3 : Int) (a0_4 : Int) (a0_5 : Int) (a0_6 : Int) (a1 : Int) (a2 : Int) (r) (h : spec_ReadOf.f k a0_0 a0_1 a0_2 a0_3 a0_4 a0_5 a0_6 a1 a2 = some r) : Contract Tryz.prog kit 5 [.ag [.row 0 .t68 a0_0,.row 0 .t80 a0_1,.row 0 .t128 a0_2,.sc (.int .i64 a0_3),.sc (.int .i64 a0_4),.sc (.int .i64 a0_5),.sc (.int .i64 a0_6)],.sc (.int .i64 a1),.sc (.int .i64 a2)] [] (spec_ReadOf.e r).1 (spec_ReadOf.e r).2.1 (spec_ReadOf.e r).2.2 :=
 con_okG kitOk mix (fun k=>(CtxOk.cons (spec_l15Read.xok k) (CtxOk.cons (spec_ScanAll.xok k) CtxOk.nil))) (spec_ReadOf.oke k a0_0 a0_1 a0_2 a0_3 a0_4 a0_5 a0_6 a1 a2) h (by kernel_rfl) (by kernel_rfl) (by kernel_rfl) rfl (by kernel_rfl) rfl rfl
def spec_ReadOf.x (k : Nat) : X:=fun ins bs κ=>match ins,bs with
 | [.ag [.row 0 .t68 a0_0,.row 0 .t80 a0_1,.row 0 .t128 a0_2,.sc (.int .i64 a0_3),.sc (.int .i64 a0_4),.sc (.int .i64 a0_5),.sc (.int .i64 a0_6)],.sc (.int .i64 a1),.sc (.int .i64 a2)],[]=>(spec_ReadOf.f k a0_0 a0_1 a0_2 a0_3 a0_4 a0_5 a0_6 a1 a2).bind fun r=>κ (spec_ReadOf.e r).1 (spec_ReadOf.e r).2.1 (spec_ReadOf.e r).2.2
 | _,_=>none
theorem spec_ReadOf.xok (k : Nat) : XOk 5 (spec_ReadOf.x k):=by
 intro ins bs κ res h;unfold spec_ReadOf.x at h
 split at h
 ·obtain ⟨r,hr,h⟩:=Option.bind_eq_some_iff.1 h;exact ⟨_,_,_,spec_ReadOf.con k _ _ _ _ _ _ _ _ _ r hr,h⟩
 cases h
def laws_toLeaf.sp : Nat → Option (Spec Ty):=fun r=>none
def laws_toLeaf.en : Option (Spec Ty):=none
def laws_toLeaf.ctx (k : Nat) : Ctx Ty D:=(fun _ _ _ _=>none)
def laws_toLeaf.f (k : Nat) (a0_0 : Int) (a0_1 : ByteArray) : Option (Int × ByteArray):=(some (a0_0,a0_1))
def laws_toLeaf.e (r : Int × ByteArray) : Res Ty D:=(.ag [.sc (.int .i64 r.1),.sc (.string r.2)],[],[])
abbrev laws_toLeaf.g (rec : List Item → St Ty D → R) (k : Nat):=go1 Tryz.f87 (laws_toLeaf.ctx k) laws_toLeaf.sp 0 laws_toLeaf.en rec
theorem laws_toLeaf.te (rec : List Item → St Ty D → R) (k : Nat) (a0_0 : Int) (a0_1 : ByteArray) : laws_toLeaf.g rec k [.code (body Tryz.f87)] (startSt [.ag [.sc (.int .i64 a0_0),.sc (.string a0_1)]] []) =
 some (laws_toLeaf.e (a0_0,a0_1)):=by kernel_rfl
theorem laws_toLeaf.oke (k : Nat) (a0_0 : Int) (a0_1 : ByteArray) : goF Tryz.f87 laws_toLeaf.ctx laws_toLeaf.sp 0 laws_toLeaf.en (k + 1) [.code (body Tryz.f87)] (startSt [.ag [.sc (.int .i64 a0_0),.sc (.string a0_1)]] []) = (laws_toLeaf.f k a0_0 a0_1).map laws_toLeaf.e:=by
 rw [laws_toLeaf.f];exact (laws_toLeaf.te _ k a0_0 a0_1).trans rfl
theorem laws_toLeaf.con (k : Nat) (a0_0 : Int) (a0_1 : ByteArray) (r) (h : laws_toLeaf.f k a0_0 a0_1 = some r) : Contract Tryz.prog kit 87 [.ag [.sc (.int .i64 a0_0),.sc (.string a0_1)]] [] (laws_toLeaf.e r).1 (laws_toLeaf.e r).2.1 (laws_toLeaf.e r).2.2 :=
 con_okG kitOk mix (fun k=>CtxOk.nil) (laws_toLeaf.oke k a0_0 a0_1) h (by kernel_rfl) (by kernel_rfl) (by kernel_rfl) rfl (by kernel_rfl) rfl rfl
def laws_toLeaf.x (k : Nat) : X:=fun ins bs κ=>match ins,bs with
 | [.ag [.sc (.int .i64 a0_0),.sc (.string a0_1)]],[]=>(laws_toLeaf.f k a0_0 a0_1).bind fun r=>κ (laws_toLeaf.e r).1 (laws_toLeaf.e r).2.1 (laws_toLeaf.e r).2.2
 | _,_=>none
theorem laws_toLeaf.xok (k : Nat) : XOk 87 (laws_toLeaf.x k):=by
 intro ins bs κ res h;unfold laws_toLeaf.x at h
 split at h
 ·obtain ⟨r,hr,h⟩:=Option.bind_eq_some_iff.1 h;exact ⟨_,_,_,laws_toLeaf.con k _ _ r hr,h⟩
 cases h
def laws_toLeafS.sp : Nat → Option (Spec Ty):=fun r=>bif Nat.beq r 3 then some ⟨[(0,.keep),(3,.own .t96),(4,.keep)],[]⟩ else none
def laws_toLeafS.en : Option (Spec Ty):=some ⟨[(2,.own .t96)],[]⟩
def laws_toLeafS.s3 (x0 : List S139) (x4 : Int) (h64 : List S96) : St Ty D:=⟨(Env.put (Env.put (Env.put E (some 0) (.row 0 .t139 x0)) (some 3) (.sl 64 none)) (some 4) (.sc (.int .i64 x4))),Heap.put H0 [(64,some (.rowb .t96 h64 0))],1000⟩
def laws_toLeafS.ctx (k : Nat) : Ctx Ty D:=(cons 87 (laws_toLeaf.x k) (fun _ _ _ _=>none))
def laws_toLeafS.c3 : Nat → (List S139) → Int → (List S96) → Option ((List S96))
 | 0,_,_,_=>none
 | k + 1,x0,x4,h64=>(if x4 < (x0.length : Int) then (if 0 ≤ x4 then (if x4 < (x0.length : Int) then ((laws_toLeaf.f k ((rd_T139 x0 x4).f0) ((rd_T139 x0 x4).f1)).bind fun t1=>(if 0 ≤ x4 then (if x4 < (h64.length : Int) then (laws_toLeafS.c3 k x0 (w64 (x4 + 1)) (h64.set x4.toNat (S96.mk t1.1 t1.2))) else none) else none)) else none) else none) else (some (h64)))
def laws_toLeafS.f (k : Nat) (a0 : List S139) : Option ((List S96)):=(if 0 ≤ (a0.length : Int) then (if (a0.length : Int).toNat ≤ 11728124029610 then (laws_toLeafS.c3 k a0 0 (List.replicate ((a0.length : Int).toNat) z96)) else none) else none)
def laws_toLeafS.e (r : (List S96)) : Res Ty D:=(.sl 0 none,[],[.rowb .t96 r 0])
abbrev laws_toLeafS.g (rec : List Item → St Ty D → R) (k : Nat):=go1 Tryz.f75 (laws_toLeafS.ctx k) laws_toLeafS.sp 0 laws_toLeafS.en rec
theorem laws_toLeafS.t3 (rec : List Item → St Ty D → R) (k : Nat) (x0 : List S139) (x4 : Int) (h64 : List S96) : laws_toLeafS.g rec k (td Tryz.f75 3) (laws_toLeafS.s3 x0 x4 h64) =
 bif decide (x4 < (x0.length : Int)) then bif decide (0 ≤ x4) then bif decide (x4 < (x0.length : Int)) then (laws_toLeaf.f k ((rd_T139 x0 x4).f0) ((rd_T139 x0 x4).f1)).bind fun t1=>bif decide (0 ≤ x4) then bif decide (x4 < (h64.length : Int)) then rec (td Tryz.f75 3) (laws_toLeafS.s3 x0 (w64 (x4 + 1)) (h64.set x4.toNat (S96.mk t1.1 t1.2))) else none else none else none else none else some (laws_toLeafS.e (h64)):=by kernel_rfl
theorem laws_toLeafS.te (rec : List Item → St Ty D → R) (k : Nat) (a0 : List S139) : laws_toLeafS.g rec k [.code (body Tryz.f75)] (startSt [.row 0 .t139 a0] []) =
 bif decide ((a0.length : Int) = (a0.length : Int)) then bif decide (0 ≤ (a0.length : Int)) then bif decide ((a0.length : Int).toNat ≤ 11728124029610) then rec (td Tryz.f75 3) (laws_toLeafS.s3 a0 0 (List.replicate ((a0.length : Int).toNat) z96)) else none else none else none:=by kernel_rfl
theorem laws_toLeafS.ok : ∀ k : Nat,(∀ (x0 : List S139) (x4 : Int) (h64 : List S96),goF Tryz.f75 laws_toLeafS.ctx laws_toLeafS.sp 0 laws_toLeafS.en k (td Tryz.f75 3) (laws_toLeafS.s3 x0 x4 h64) = (laws_toLeafS.c3 k x0 x4 h64).map laws_toLeafS.e)
 | 0=>fun _ _ _=>rfl
 | k + 1=>by
  have ih:=laws_toLeafS.ok k;have i3:=ih;intro x0 x4 h64;rw [laws_toLeafS.c3];exact (laws_toLeafS.t3 _ k x0 x4 h64).trans (cd (cd (cd (bn (fun t1=>(cd (cd (i3 _ _ _) rfl) rfl))) rfl) rfl) rfl)
theorem laws_toLeafS.oke (k : Nat) (a0 : List S139) : goF Tryz.f75 laws_toLeafS.ctx laws_toLeafS.sp 0 laws_toLeafS.en (k + 1) [.code (body Tryz.f75)] (startSt [.row 0 .t139 a0] []) = (laws_toLeafS.f k a0).map laws_toLeafS.e:=by
 have i3:=laws_toLeafS.ok k;rw [laws_toLeafS.f];exact (laws_toLeafS.te _ k a0).trans (sf (cd (cd (i3 _ _ _) rfl) rfl))
theorem laws_toLeafS.con (k : Nat) (a0 : List S139) (r) (h : laws_toLeafS.f k a0 = some r) : Contract Tryz.prog kit 75 [.row 0 .t139 a0] [] (laws_toLeafS.e r).1 (laws_toLeafS.e r).2.1 (laws_toLeafS.e r).2.2 :=
 con_okG kitOk mix (fun k=>(CtxOk.cons (laws_toLeaf.xok k) CtxOk.nil)) (laws_toLeafS.oke k a0) h (by kernel_rfl) (by kernel_rfl) (by kernel_rfl) rfl (by kernel_rfl) rfl rfl
def laws_toLeafS.x (k : Nat) : X:=fun ins bs κ=>match ins,bs with
 | [.row 0 .t139 a0],[]=>(laws_toLeafS.f k a0).bind fun r=>κ (laws_toLeafS.e r).1 (laws_toLeafS.e r).2.1 (laws_toLeafS.e r).2.2
 | _,_=>none
theorem laws_toLeafS.xok (k : Nat) : XOk 75 (laws_toLeafS.x k):=by
 intro ins bs κ res h;unfold laws_toLeafS.x at h
 split at h
 ·obtain ⟨r,hr,h⟩:=Option.bind_eq_some_iff.1 h;exact ⟨_,_,_,laws_toLeafS.con k _ r hr,h⟩
 cases h
def laws_toBlock.sp : Nat → Option (Spec Ty):=fun r=>none
def laws_toBlock.en : Option (Spec Ty):=some ⟨[(2,.box [.keep,.keep,.own .t96])],[]⟩
def laws_toBlock.ctx (k : Nat) : Ctx Ty D:=(cons 75 (laws_toLeafS.x k) (fun _ _ _ _=>none))
def laws_toBlock.f (k : Nat) (a0_0 : Bool) (a0_1 : Int) (a0_2 : List S139) : Option (Bool × Int × (List S96)):=((laws_toLeafS.f k a0_2).bind fun t1=>(some (a0_0,a0_1,t1)))
def laws_toBlock.e (r : Bool × Int × (List S96)) : Res Ty D:=(.ag [.sc (.bool r.1),.sc (.int .i64 r.2.1),.sl 0 none],[],[.rowb .t96 r.2.2 0])
abbrev laws_toBlock.g (rec : List Item → St Ty D → R) (k : Nat):=go1 Tryz.f46 (laws_toBlock.ctx k) laws_toBlock.sp 0 laws_toBlock.en rec
theorem laws_toBlock.te (rec : List Item → St Ty D → R) (k : Nat) (a0_0 : Bool) (a0_1 : Int) (a0_2 : List S139) : laws_toBlock.g rec k [.code (body Tryz.f46)] (startSt [.ag [.sc (.bool a0_0),.sc (.int .i64 a0_1),.row 0 .t139 a0_2]] []) =
 (laws_toLeafS.f k a0_2).bind fun t1=>some (laws_toBlock.e (a0_0,a0_1,t1)):=by kernel_rfl
theorem laws_toBlock.oke (k : Nat) (a0_0 : Bool) (a0_1 : Int) (a0_2 : List S139) : goF Tryz.f46 laws_toBlock.ctx laws_toBlock.sp 0 laws_toBlock.en (k + 1) [.code (body Tryz.f46)] (startSt [.ag [.sc (.bool a0_0),.sc (.int .i64 a0_1),.row 0 .t139 a0_2]] []) = (laws_toBlock.f k a0_0 a0_1 a0_2).map laws_toBlock.e:=by
 rw [laws_toBlock.f];exact (laws_toBlock.te _ k a0_0 a0_1 a0_2).trans (bn (fun t1=>rfl))
theorem laws_toBlock.con (k : Nat) (a0_0 : Bool) (a0_1 : Int) (a0_2 : List S139) (r) (h : laws_toBlock.f k a0_0 a0_1 a0_2 = some r) : Contract Tryz.prog kit 46 [.ag [.sc (.bool a0_0),.sc (.int .i64 a0_1),.row 0 .t139 a0_2]] [] (laws_toBlock.e r).1 (laws_toBlock.e r).2.1 (laws_toBlock.e r).2.2 :=
 con_okG kitOk mix (fun k=>(CtxOk.cons (laws_toLeafS.xok k) CtxOk.nil)) (laws_toBlock.oke k a0_0 a0_1 a0_2) h (by kernel_rfl) (by kernel_rfl) (by kernel_rfl) rfl (by kernel_rfl) rfl rfl
def laws_toBlock.x (k : Nat) : X:=fun ins bs κ=>match ins,bs with
 | [.ag [.sc (.bool a0_0),.sc (.int .i64 a0_1),.row 0 .t139 a0_2]],[]=>(laws_toBlock.f k a0_0 a0_1 a0_2).bind fun r=>κ (laws_toBlock.e r).1 (laws_toBlock.e r).2.1 (laws_toBlock.e r).2.2
 | _,_=>none
theorem laws_toBlock.xok (k : Nat) : XOk 46 (laws_toBlock.x k):=by
 intro ins bs κ res h;unfold laws_toBlock.x at h
 split at h
 ·obtain ⟨r,hr,h⟩:=Option.bind_eq_some_iff.1 h;exact ⟨_,_,_,laws_toBlock.con k _ _ _ r hr,h⟩
 cases h
def laws_toBlockS.sp : Nat → Option (Spec Ty):=fun r=>bif Nat.beq r 3 then some ⟨[(0,.keep),(3,.own .t68),(4,.keep)],[]⟩ else none
def laws_toBlockS.en : Option (Spec Ty):=some ⟨[(2,.own .t68)],[]⟩
def laws_toBlockS.s3 (x0 : List S91) (x4 : Int) (h64 : List S68) : St Ty D:=⟨(Env.put (Env.put (Env.put E (some 0) (.row 0 .t91 x0)) (some 3) (.sl 64 none)) (some 4) (.sc (.int .i64 x4))),Heap.put H0 [(64,some (.rowb .t68 h64 0))],1000⟩
def laws_toBlockS.ctx (k : Nat) : Ctx Ty D:=(cons 46 (laws_toBlock.x k) (fun _ _ _ _=>none))
def laws_toBlockS.c3 : Nat → (List S91) → Int → (List S68) → Option ((List S68))
 | 0,_,_,_=>none
 | k + 1,x0,x4,h64=>(if x4 < (x0.length : Int) then (if 0 ≤ x4 then (if x4 < (x0.length : Int) then ((laws_toBlock.f k ((rd_T91 x0 x4).f0) ((rd_T91 x0 x4).f1) ((rd_T91 x0 x4).f2)).bind fun t1=>(if 0 ≤ x4 then (if x4 < (h64.length : Int) then (laws_toBlockS.c3 k x0 (w64 (x4 + 1)) (h64.set x4.toNat (S68.mk t1.1 t1.2.1 t1.2.2))) else none) else none)) else none) else none) else (some (h64)))
def laws_toBlockS.f (k : Nat) (a0 : List S91) : Option ((List S68)):=(if 0 ≤ (a0.length : Int) then (if (a0.length : Int).toNat ≤ 7036874417766 then (laws_toBlockS.c3 k a0 0 (List.replicate ((a0.length : Int).toNat) z68)) else none) else none)
def laws_toBlockS.e (r : (List S68)) : Res Ty D:=(.sl 0 none,[],[.rowb .t68 r 0])
abbrev laws_toBlockS.g (rec : List Item → St Ty D → R) (k : Nat):=go1 Tryz.f28 (laws_toBlockS.ctx k) laws_toBlockS.sp 0 laws_toBlockS.en rec
theorem laws_toBlockS.t3 (rec : List Item → St Ty D → R) (k : Nat) (x0 : List S91) (x4 : Int) (h64 : List S68) : laws_toBlockS.g rec k (td Tryz.f28 3) (laws_toBlockS.s3 x0 x4 h64) =
 bif decide (x4 < (x0.length : Int)) then bif decide (0 ≤ x4) then bif decide (x4 < (x0.length : Int)) then (laws_toBlock.f k ((rd_T91 x0 x4).f0) ((rd_T91 x0 x4).f1) ((rd_T91 x0 x4).f2)).bind fun t1=>bif decide (0 ≤ x4) then bif decide (x4 < (h64.length : Int)) then rec (td Tryz.f28 3) (laws_toBlockS.s3 x0 (w64 (x4 + 1)) (h64.set x4.toNat (S68.mk t1.1 t1.2.1 t1.2.2))) else none else none else none else none else some (laws_toBlockS.e (h64)):=by kernel_rfl
theorem laws_toBlockS.te (rec : List Item → St Ty D → R) (k : Nat) (a0 : List S91) : laws_toBlockS.g rec k [.code (body Tryz.f28)] (startSt [.row 0 .t91 a0] []) =
 bif decide ((a0.length : Int) = (a0.length : Int)) then bif decide (0 ≤ (a0.length : Int)) then bif decide ((a0.length : Int).toNat ≤ 7036874417766) then rec (td Tryz.f28 3) (laws_toBlockS.s3 a0 0 (List.replicate ((a0.length : Int).toNat) z68)) else none else none else none:=by kernel_rfl
theorem laws_toBlockS.ok : ∀ k : Nat,(∀ (x0 : List S91) (x4 : Int) (h64 : List S68),goF Tryz.f28 laws_toBlockS.ctx laws_toBlockS.sp 0 laws_toBlockS.en k (td Tryz.f28 3) (laws_toBlockS.s3 x0 x4 h64) = (laws_toBlockS.c3 k x0 x4 h64).map laws_toBlockS.e)
 | 0=>fun _ _ _=>rfl
 | k + 1=>by
  have ih:=laws_toBlockS.ok k;have i3:=ih;intro x0 x4 h64;rw [laws_toBlockS.c3];exact (laws_toBlockS.t3 _ k x0 x4 h64).trans (cd (cd (cd (bn (fun t1=>(cd (cd (i3 _ _ _) rfl) rfl))) rfl) rfl) rfl)
theorem laws_toBlockS.oke (k : Nat) (a0 : List S91) : goF Tryz.f28 laws_toBlockS.ctx laws_toBlockS.sp 0 laws_toBlockS.en (k + 1) [.code (body Tryz.f28)] (startSt [.row 0 .t91 a0] []) = (laws_toBlockS.f k a0).map laws_toBlockS.e:=by
 have i3:=laws_toBlockS.ok k;rw [laws_toBlockS.f];exact (laws_toBlockS.te _ k a0).trans (sf (cd (cd (i3 _ _ _) rfl) rfl))
theorem laws_toBlockS.con (k : Nat) (a0 : List S91) (r) (h : laws_toBlockS.f k a0 = some r) : Contract Tryz.prog kit 28 [.row 0 .t91 a0] [] (laws_toBlockS.e r).1 (laws_toBlockS.e r).2.1 (laws_toBlockS.e r).2.2 :=
 con_okG kitOk mix (fun k=>(CtxOk.cons (laws_toBlock.xok k) CtxOk.nil)) (laws_toBlockS.oke k a0) h (by kernel_rfl) (by kernel_rfl) (by kernel_rfl) rfl (by kernel_rfl) rfl rfl
def laws_toBlockS.x (k : Nat) : X:=fun ins bs κ=>match ins,bs with
 | [.row 0 .t91 a0],[]=>(laws_toBlockS.f k a0).bind fun r=>κ (laws_toBlockS.e r).1 (laws_toBlockS.e r).2.1 (laws_toBlockS.e r).2.2
 | _,_=>none
theorem laws_toBlockS.xok (k : Nat) : XOk 28 (laws_toBlockS.x k):=by
 intro ins bs κ res h;unfold laws_toBlockS.x at h
 split at h
 ·obtain ⟨r,hr,h⟩:=Option.bind_eq_some_iff.1 h;exact ⟨_,_,_,laws_toBlockS.con k _ r hr,h⟩
 cases h
def laws_toFlash.sp : Nat → Option (Spec Ty):=fun r=>none
def laws_toFlash.en : Option (Spec Ty):=some ⟨[(2,.box [.own .t68])],[]⟩
def laws_toFlash.ctx (k : Nat) : Ctx Ty D:=(cons 28 (laws_toBlockS.x k) (fun _ _ _ _=>none))
def laws_toFlash.f (k : Nat) (a0_0 : List S91) : Option ((List S68)):=((laws_toBlockS.f k a0_0).bind fun t1=>(some (t1)))
def laws_toFlash.e (r : (List S68)) : Res Ty D:=(.ag [.sl 0 none],[],[.rowb .t68 r 0])
abbrev laws_toFlash.g (rec : List Item → St Ty D → R) (k : Nat):=go1 Tryz.f13 (laws_toFlash.ctx k) laws_toFlash.sp 0 laws_toFlash.en rec
theorem laws_toFlash.te (rec : List Item → St Ty D → R) (k : Nat) (a0_0 : List S91) : laws_toFlash.g rec k [.code (body Tryz.f13)] (startSt [.ag [.row 0 .t91 a0_0]] []) =
 (laws_toBlockS.f k a0_0).bind fun t1=>some (laws_toFlash.e (t1)):=by kernel_rfl
theorem laws_toFlash.oke (k : Nat) (a0_0 : List S91) : goF Tryz.f13 laws_toFlash.ctx laws_toFlash.sp 0 laws_toFlash.en (k + 1) [.code (body Tryz.f13)] (startSt [.ag [.row 0 .t91 a0_0]] []) = (laws_toFlash.f k a0_0).map laws_toFlash.e:=by
 rw [laws_toFlash.f];exact (laws_toFlash.te _ k a0_0).trans (bn (fun t1=>rfl))
theorem laws_toFlash.con (k : Nat) (a0_0 : List S91) (r) (h : laws_toFlash.f k a0_0 = some r) : Contract Tryz.prog kit 13 [.ag [.row 0 .t91 a0_0]] [] (laws_toFlash.e r).1 (laws_toFlash.e r).2.1 (laws_toFlash.e r).2.2 :=
 con_okG kitOk mix (fun k=>(CtxOk.cons (laws_toBlockS.xok k) CtxOk.nil)) (laws_toFlash.oke k a0_0) h (by kernel_rfl) (by kernel_rfl) (by kernel_rfl) rfl (by kernel_rfl) rfl rfl
def laws_toFlash.x (k : Nat) : X:=fun ins bs κ=>match ins,bs with
 | [.ag [.row 0 .t91 a0_0]],[]=>(laws_toFlash.f k a0_0).bind fun r=>κ (laws_toFlash.e r).1 (laws_toFlash.e r).2.1 (laws_toFlash.e r).2.2
 | _,_=>none
theorem laws_toFlash.xok (k : Nat) : XOk 13 (laws_toFlash.x k):=by
 intro ins bs κ res h;unfold laws_toFlash.x at h
 split at h
 ·obtain ⟨r,hr,h⟩:=Option.bind_eq_some_iff.1 h;exact ⟨_,_,_,laws_toFlash.con k _ r hr,h⟩
 cases h
def laws_toVol.sp : Nat → Option (Spec Ty):=fun r=>none
def laws_toVol.en : Option (Spec Ty):=none
def laws_toVol.ctx (k : Nat) : Ctx Ty D:=(fun _ _ _ _=>none)
def laws_toVol.f (k : Nat) (a0_0 : Int) (a0_1 : Int) : Option (Int × Int):=(some (a0_0,a0_1))
def laws_toVol.e (r : Int × Int) : Res Ty D:=(.ag [.sc (.int .i64 r.1),.sc (.int .i64 r.2)],[],[])
abbrev laws_toVol.g (rec : List Item → St Ty D → R) (k : Nat):=go1 Tryz.f47 (laws_toVol.ctx k) laws_toVol.sp 0 laws_toVol.en rec
theorem laws_toVol.te (rec : List Item → St Ty D → R) (k : Nat) (a0_0 : Int) (a0_1 : Int) : laws_toVol.g rec k [.code (body Tryz.f47)] (startSt [.ag [.sc (.int .i64 a0_0),.sc (.int .i64 a0_1)]] []) =
 some (laws_toVol.e (a0_0,a0_1)):=by kernel_rfl
theorem laws_toVol.oke (k : Nat) (a0_0 : Int) (a0_1 : Int) : goF Tryz.f47 laws_toVol.ctx laws_toVol.sp 0 laws_toVol.en (k + 1) [.code (body Tryz.f47)] (startSt [.ag [.sc (.int .i64 a0_0),.sc (.int .i64 a0_1)]] []) = (laws_toVol.f k a0_0 a0_1).map laws_toVol.e:=by
 rw [laws_toVol.f];exact (laws_toVol.te _ k a0_0 a0_1).trans rfl
theorem laws_toVol.con (k : Nat) (a0_0 : Int) (a0_1 : Int) (r) (h : laws_toVol.f k a0_0 a0_1 = some r) : Contract Tryz.prog kit 47 [.ag [.sc (.int .i64 a0_0),.sc (.int .i64 a0_1)]] [] (laws_toVol.e r).1 (laws_toVol.e r).2.1 (laws_toVol.e r).2.2 :=
 con_okG kitOk mix (fun k=>CtxOk.nil) (laws_toVol.oke k a0_0 a0_1) h (by kernel_rfl) (by kernel_rfl) (by kernel_rfl) rfl (by kernel_rfl) rfl rfl
def laws_toVol.x (k : Nat) : X:=fun ins bs κ=>match ins,bs with
 | [.ag [.sc (.int .i64 a0_0),.sc (.int .i64 a0_1)]],[]=>(laws_toVol.f k a0_0 a0_1).bind fun r=>κ (laws_toVol.e r).1 (laws_toVol.e r).2.1 (laws_toVol.e r).2.2
 | _,_=>none
theorem laws_toVol.xok (k : Nat) : XOk 47 (laws_toVol.x k):=by
 intro ins bs κ res h;unfold laws_toVol.x at h
 split at h
 ·obtain ⟨r,hr,h⟩:=Option.bind_eq_some_iff.1 h;exact ⟨_,_,_,laws_toVol.con k _ _ r hr,h⟩
 cases h
def laws_toVolS.sp : Nat → Option (Spec Ty):=fun r=>bif Nat.beq r 3 then some ⟨[(0,.keep),(3,.own .t80),(4,.keep)],[]⟩ else none
def laws_toVolS.en : Option (Spec Ty):=some ⟨[(2,.own .t80)],[]⟩
def laws_toVolS.s3 (x0 : List S104) (x4 : Int) (h64 : List S80) : St Ty D:=⟨(Env.put (Env.put (Env.put E (some 0) (.row 0 .t104 x0)) (some 3) (.sl 64 none)) (some 4) (.sc (.int .i64 x4))),Heap.put H0 [(64,some (.rowb .t80 h64 0))],1000⟩
def laws_toVolS.ctx (k : Nat) : Ctx Ty D:=(cons 47 (laws_toVol.x k) (fun _ _ _ _=>none))
def laws_toVolS.c3 : Nat → (List S104) → Int → (List S80) → Option ((List S80))
 | 0,_,_,_=>none
 | k + 1,x0,x4,h64=>(if x4 < (x0.length : Int) then (if 0 ≤ x4 then (if x4 < (x0.length : Int) then ((laws_toVol.f k ((rd_T104 x0 x4).f0) ((rd_T104 x0 x4).f1)).bind fun t1=>(if 0 ≤ x4 then (if x4 < (h64.length : Int) then (laws_toVolS.c3 k x0 (w64 (x4 + 1)) (h64.set x4.toNat (S80.mk t1.1 t1.2))) else none) else none)) else none) else none) else (some (h64)))
def laws_toVolS.f (k : Nat) (a0 : List S104) : Option ((List S80)):=(if 0 ≤ (a0.length : Int) then (if (a0.length : Int).toNat ≤ 17592186044416 then (laws_toVolS.c3 k a0 0 (List.replicate ((a0.length : Int).toNat) z80)) else none) else none)
def laws_toVolS.e (r : (List S80)) : Res Ty D:=(.sl 0 none,[],[.rowb .t80 r 0])
abbrev laws_toVolS.g (rec : List Item → St Ty D → R) (k : Nat):=go1 Tryz.f29 (laws_toVolS.ctx k) laws_toVolS.sp 0 laws_toVolS.en rec
theorem laws_toVolS.t3 (rec : List Item → St Ty D → R) (k : Nat) (x0 : List S104) (x4 : Int) (h64 : List S80) : laws_toVolS.g rec k (td Tryz.f29 3) (laws_toVolS.s3 x0 x4 h64) =
 bif decide (x4 < (x0.length : Int)) then bif decide (0 ≤ x4) then bif decide (x4 < (x0.length : Int)) then (laws_toVol.f k ((rd_T104 x0 x4).f0) ((rd_T104 x0 x4).f1)).bind fun t1=>bif decide (0 ≤ x4) then bif decide (x4 < (h64.length : Int)) then rec (td Tryz.f29 3) (laws_toVolS.s3 x0 (w64 (x4 + 1)) (h64.set x4.toNat (S80.mk t1.1 t1.2))) else none else none else none else none else some (laws_toVolS.e (h64)):=by kernel_rfl
theorem laws_toVolS.te (rec : List Item → St Ty D → R) (k : Nat) (a0 : List S104) : laws_toVolS.g rec k [.code (body Tryz.f29)] (startSt [.row 0 .t104 a0] []) =
 bif decide ((a0.length : Int) = (a0.length : Int)) then bif decide (0 ≤ (a0.length : Int)) then bif decide ((a0.length : Int).toNat ≤ 17592186044416) then rec (td Tryz.f29 3) (laws_toVolS.s3 a0 0 (List.replicate ((a0.length : Int).toNat) z80)) else none else none else none:=by kernel_rfl
theorem laws_toVolS.ok : ∀ k : Nat,(∀ (x0 : List S104) (x4 : Int) (h64 : List S80),goF Tryz.f29 laws_toVolS.ctx laws_toVolS.sp 0 laws_toVolS.en k (td Tryz.f29 3) (laws_toVolS.s3 x0 x4 h64) = (laws_toVolS.c3 k x0 x4 h64).map laws_toVolS.e)
 | 0=>fun _ _ _=>rfl
 | k + 1=>by
  have ih:=laws_toVolS.ok k;have i3:=ih;intro x0 x4 h64;rw [laws_toVolS.c3];exact (laws_toVolS.t3 _ k x0 x4 h64).trans (cd (cd (cd (bn (fun t1=>(cd (cd (i3 _ _ _) rfl) rfl))) rfl) rfl) rfl)
theorem laws_toVolS.oke (k : Nat) (a0 : List S104) : goF Tryz.f29 laws_toVolS.ctx laws_toVolS.sp 0 laws_toVolS.en (k + 1) [.code (body Tryz.f29)] (startSt [.row 0 .t104 a0] []) = (laws_toVolS.f k a0).map laws_toVolS.e:=by
 have i3:=laws_toVolS.ok k;rw [laws_toVolS.f];exact (laws_toVolS.te _ k a0).trans (sf (cd (cd (i3 _ _ _) rfl) rfl))
theorem laws_toVolS.con (k : Nat) (a0 : List S104) (r) (h : laws_toVolS.f k a0 = some r) : Contract Tryz.prog kit 29 [.row 0 .t104 a0] [] (laws_toVolS.e r).1 (laws_toVolS.e r).2.1 (laws_toVolS.e r).2.2 :=
 con_okG kitOk mix (fun k=>(CtxOk.cons (laws_toVol.xok k) CtxOk.nil)) (laws_toVolS.oke k a0) h (by kernel_rfl) (by kernel_rfl) (by kernel_rfl) rfl (by kernel_rfl) rfl rfl
def laws_toVolS.x (k : Nat) : X:=fun ins bs κ=>match ins,bs with
 | [.row 0 .t104 a0],[]=>(laws_toVolS.f k a0).bind fun r=>κ (laws_toVolS.e r).1 (laws_toVolS.e r).2.1 (laws_toVolS.e r).2.2
 | _,_=>none
theorem laws_toVolS.xok (k : Nat) : XOk 29 (laws_toVolS.x k):=by
 intro ins bs κ res h;unfold laws_toVolS.x at h
 split at h
 ·obtain ⟨r,hr,h⟩:=Option.bind_eq_some_iff.1 h;exact ⟨_,_,_,laws_toVolS.con k _ r hr,h⟩
 cases h
def laws_toIntS.sp : Nat → Option (Spec Ty):=fun r=>bif Nat.beq r 3 then some ⟨[(0,.keep),(3,.own .t3),(4,.keep)],[]⟩ else none
def laws_toIntS.en : Option (Spec Ty):=some ⟨[(2,.own .t3)],[]⟩
def laws_toIntS.s3 (x0 : List Int) (x4 : Int) (h64 : List Int) : St Ty D:=⟨(Env.put (Env.put (Env.put E (some 0) (.row 0 .t3 x0)) (some 3) (.sl 64 none)) (some 4) (.sc (.int .i64 x4))),Heap.put H0 [(64,some (.rowb .t3 h64 0))],1000⟩
def laws_toIntS.ctx (k : Nat) : Ctx Ty D:=(fun _ _ _ _=>none)
def laws_toIntS.c3 : Nat → (List Int) → Int → (List Int) → Option ((List Int))
 | 0,_,_,_=>none
 | k + 1,x0,x4,h64=>(if x4 < (x0.length : Int) then (if 0 ≤ x4 then (if x4 < (x0.length : Int) then (if 0 ≤ x4 then (if x4 < (h64.length : Int) then (laws_toIntS.c3 k x0 (w64 (x4 + 1)) (h64.set x4.toNat (rd_T3 x0 x4))) else none) else none) else none) else none) else (some (h64)))
def laws_toIntS.f (k : Nat) (a0 : List Int) : Option ((List Int)):=(if 0 ≤ (a0.length : Int) then (if (a0.length : Int).toNat ≤ 35184372088832 then (laws_toIntS.c3 k a0 0 (List.replicate ((a0.length : Int).toNat) z3)) else none) else none)
def laws_toIntS.e (r : (List Int)) : Res Ty D:=(.sl 0 none,[],[.rowb .t3 r 0])
abbrev laws_toIntS.g (rec : List Item → St Ty D → R) (k : Nat):=go1 Tryz.f88 (laws_toIntS.ctx k) laws_toIntS.sp 0 laws_toIntS.en rec
theorem laws_toIntS.t3 (rec : List Item → St Ty D → R) (k : Nat) (x0 : List Int) (x4 : Int) (h64 : List Int) : laws_toIntS.g rec k (td Tryz.f88 3) (laws_toIntS.s3 x0 x4 h64) =
 bif decide (x4 < (x0.length : Int)) then bif decide (0 ≤ x4) then bif decide (x4 < (x0.length : Int)) then bif decide (0 ≤ x4) then bif decide (x4 < (h64.length : Int)) then rec (td Tryz.f88 3) (laws_toIntS.s3 x0 (w64 (x4 + 1)) (h64.set x4.toNat (rd_T3 x0 x4))) else none else none else none else none else some (laws_toIntS.e (h64)):=by kernel_rfl
theorem laws_toIntS.te (rec : List Item → St Ty D → R) (k : Nat) (a0 : List Int) : laws_toIntS.g rec k [.code (body Tryz.f88)] (startSt [.row 0 .t3 a0] []) =
 bif decide ((a0.length : Int) = (a0.length : Int)) then bif decide (0 ≤ (a0.length : Int)) then bif decide ((a0.length : Int).toNat ≤ 35184372088832) then rec (td Tryz.f88 3) (laws_toIntS.s3 a0 0 (List.replicate ((a0.length : Int).toNat) z3)) else none else none else none:=by kernel_rfl
theorem laws_toIntS.ok : ∀ k : Nat,(∀ (x0 : List Int) (x4 : Int) (h64 : List Int),goF Tryz.f88 laws_toIntS.ctx laws_toIntS.sp 0 laws_toIntS.en k (td Tryz.f88 3) (laws_toIntS.s3 x0 x4 h64) = (laws_toIntS.c3 k x0 x4 h64).map laws_toIntS.e)
 | 0=>fun _ _ _=>rfl
 | k + 1=>by
  have ih:=laws_toIntS.ok k;have i3:=ih;intro x0 x4 h64;rw [laws_toIntS.c3];exact (laws_toIntS.t3 _ k x0 x4 h64).trans (cd (cd (cd (cd (cd (i3 _ _ _) rfl) rfl) rfl) rfl) rfl)
theorem laws_toIntS.oke (k : Nat) (a0 : List Int) : goF Tryz.f88 laws_toIntS.ctx laws_toIntS.sp 0 laws_toIntS.en (k + 1) [.code (body Tryz.f88)] (startSt [.row 0 .t3 a0] []) = (laws_toIntS.f k a0).map laws_toIntS.e:=by
 have i3:=laws_toIntS.ok k;rw [laws_toIntS.f];exact (laws_toIntS.te _ k a0).trans (sf (cd (cd (i3 _ _ _) rfl) rfl))
theorem laws_toIntS.con (k : Nat) (a0 : List Int) (r) (h : laws_toIntS.f k a0 = some r) : Contract Tryz.prog kit 88 [.row 0 .t3 a0] [] (laws_toIntS.e r).1 (laws_toIntS.e r).2.1 (laws_toIntS.e r).2.2 :=
 con_okG kitOk mix (fun k=>CtxOk.nil) (laws_toIntS.oke k a0) h (by kernel_rfl) (by kernel_rfl) (by kernel_rfl) rfl (by kernel_rfl) rfl rfl
def laws_toIntS.x (k : Nat) : X:=fun ins bs κ=>match ins,bs with
 | [.row 0 .t3 a0],[]=>(laws_toIntS.f k a0).bind fun r=>κ (laws_toIntS.e r).1 (laws_toIntS.e r).2.1 (laws_toIntS.e r).2.2
 | _,_=>none
theorem laws_toIntS.xok (k : Nat) : XOk 88 (laws_toIntS.x k):=by
 intro ins bs κ res h;unfold laws_toIntS.x at h
 split at h
 ·obtain ⟨r,hr,h⟩:=Option.bind_eq_some_iff.1 h;exact ⟨_,_,_,laws_toIntS.con k _ r hr,h⟩
 cases h
end
end Go.Proofs.YtbbfkodckpfjcaaGreat.M2
