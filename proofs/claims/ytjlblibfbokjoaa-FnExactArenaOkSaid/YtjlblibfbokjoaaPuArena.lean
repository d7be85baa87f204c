/- What the functions on arenas answer: sizes, copies, comparison, and when an arena is right. -/
import Derived.Test.YtjlblibfbokjoaaPu0
import Derived.Test.YtjlblibfbokjoaaPAx22
import Derived.Test.YtjlblibfbokjoaaPAx27
import Derived.Test.YtjlblibfbokjoaaPAx32
namespace Go.Proofs.Ytjlblibfbokjoaa.Pu
open Go.RowKit Go.Proofs.Ytjlblibfbokjoaa.PA Go.Proofs.YtjlblibfbokjoaaW.PrintWords

theorem rd_nat (l : List Int) (i : Nat) : rd l (i : Int) = l.getD i 0 := rfl
theorem rd145_nat (l : List S145) (i : Nat) : rd_T145 l (i : Int) = l.getD i z145 := rfl
theorem rd100_nat (l : List S100) (i : Nat) : rd_T100 l (i : Int) = l.getD i z100 := rfl

def toK (x : S145) : S100 := ⟨x.f0, x.f1⟩
def toA (l : List S145) : List S100 := l.map toK

theorem toIntS_ev (l : List Int) (h : l.length ≤ 35184372088832) : Ev (fun k => laws_toIntS.f k l) l := by
  have hn : l.length ≤ 9223372036854775807 := by omega
  have h1 := ev_fill_all (E := fun _ i => some (rd l i)) (l := l) (z := 0) (g := fun x => x) (xs := List.replicate l.length 0) (L := fun k xs i => laws_toIntS.l0 k l xs i) hn (fun k xs i => by
    simp only [laws_toIntS.l0, Option.bind_some]) (fun i _ => by rw [rd_nat]; exact Ev.now _) (by simp)
  rw [List.map_id'] at h1
  refine ev_ext (fun k => ?_) h1
  unfold laws_toIntS.f
  rw [if_pos (by omega), if_pos (by simpa using h)]
  simp
theorem toKnot_ev (b : Bool) (l : List Int) (h : l.length ≤ 35184372088832) : Ev (fun k => laws_toKnot.f k b l) (b, l) := by
  unfold laws_toKnot.f
  exact ev_bind (toIntS_ev l h) (Ev.now _)
theorem toKnotS_ev (l : List S145) (h : l.length ≤ 8796093022208) (hk : ∀ x ∈ l, x.f1.length ≤ 35184372088832) : Ev (fun k => laws_toKnotS.f k l) (toA l) := by
  have hn : l.length ≤ 9223372036854775807 := by omega
  have h1 := ev_fill_all (E := fun k i => (laws_toKnot.f k (rd_T145 l i).f0 (rd_T145 l i).f1).bind fun bt => some (⟨bt.1, bt.2⟩ : S100)) (l := l) (z := z145) (g := toK) (xs := List.replicate l.length z100) (L := fun k xs i => laws_toKnotS.l0 k l xs i) hn (fun k xs i => by
    simp only [laws_toKnotS.l0, Option.bind_assoc, Option.bind_some]) (fun i hi => by
      rw [rd145_nat]
      have hm : l.getD i z145 ∈ l := by rw [List.getD_eq_getElem?_getD, List.getElem?_eq_getElem hi]; exact List.getElem_mem hi
      exact ev_bind (toKnot_ev _ _ (hk _ hm)) (Ev.now _)) (by simp)
  refine ev_ext (fun k => ?_) h1
  unfold laws_toKnotS.f
  rw [if_pos (by omega), if_pos (by simpa using h)]
  simp
theorem toArena_ev (l : List S145) (h : l.length ≤ 8796093022208) (hk : ∀ x ∈ l, x.f1.length ≤ 35184372088832) : Ev (fun k => laws_toArena.f k l) (toA l) := by
  unfold laws_toArena.f
  exact ev_bind (toKnotS_ev l h hk) (Ev.now _)

theorem eqIntS_ev (l : List Int) (hn : l.length ≤ 9223372036854775807) : Ev (fun k => laws_eqIntS.f k l l) true := by
  have h1 := ev_all (n := l.length) (m := l.length) (L := fun k i => laws_eqIntS.l0 k l l i) (E := fun _ _ => some true) hn (Nat.le_refl _) (fun k i => by simp [laws_eqIntS.l0]) (fun i _ => Ev.now _) l.length 0 (by omega)
  refine ev_ext (fun k => ?_) h1
  unfold laws_eqIntS.f
  rw [if_pos rfl]; rfl
theorem eqKnot_ev (b : Bool) (l : List Int) (hn : l.length ≤ 9223372036854775807) : Ev (fun k => laws_eqKnot.f k b l b l) true := by
  unfold laws_eqKnot.f
  simp only [bne_self_eq_false, Bool.false_eq_true, if_false]
  exact ev_bind (eqIntS_ev l hn) (by simp only [if_true]; exact Ev.now _)
theorem eqKnotS_ev (l : List S100) (hn : l.length ≤ 9223372036854775807) (hk : ∀ x ∈ l, x.f1.length ≤ 9223372036854775807) : Ev (fun k => laws_eqKnotS.f k l l) true := by
  have h1 := ev_all (n := l.length) (m := l.length) (L := fun k i => laws_eqKnotS.l0 k l l i) (E := fun k i => laws_eqKnot.f k (rd_T100 l i).f0 (rd_T100 l i).f1 (rd_T100 l i).f0 (rd_T100 l i).f1) hn (Nat.le_refl _) (fun k i => by simp only [laws_eqKnotS.l0]) (fun i hi => by
    rw [rd100_nat]
    have hm : l.getD i z100 ∈ l := by rw [List.getD_eq_getElem?_getD, List.getElem?_eq_getElem hi]; exact List.getElem_mem hi
    exact eqKnot_ev _ _ (hk _ hm)) l.length 0 (by omega)
  refine ev_ext (fun k => ?_) h1
  unfold laws_eqKnotS.f
  rw [if_pos rfl]; rfl
theorem eqArena_ev (l : List S100) (hn : l.length ≤ 9223372036854775807) (hk : ∀ x ∈ l, x.f1.length ≤ 9223372036854775807) : Ev (fun k => laws_eqArena.f k l l) true := by
  unfold laws_eqArena.f
  exact ev_bind (eqKnotS_ev l hn hk) (by simp only [if_true]; exact Ev.now _)

theorem szIntS_eq (l : List Int) (a : Int) (h0 : 0 ≤ a) (h1 : a ≤ 1048576) (hn : l.length ≤ 9223372036854775807) : ∃ t, laws_szIntS.f l a = some t ∧ t ≤ a ∧ (0 ≤ t → (l.length : Int) ≤ a) := by
  unfold laws_szIntS.f
  rw [w64 (by omega) (by omega)]
  by_cases h : a - (l.length : Int) < 0
  · exact ⟨-1, by rw [if_pos h], by omega, fun h2 => by omega⟩
  · exact ⟨_, by rw [if_neg h], by omega, fun _ => by omega⟩
theorem szKnot_eq (b : Bool) (l : List Int) (a : Int) (h0 : 0 ≤ a) (h1 : a ≤ 1048576) (hn : l.length ≤ 9223372036854775807) : ∃ t, laws_szKnot.f b l a = some t ∧ t ≤ a ∧ (0 ≤ t → (l.length : Int) ≤ a) := by
  obtain ⟨t, ht, hta, hp⟩ := szIntS_eq l a h0 h1 hn
  unfold laws_szKnot.f
  rw [ht]
  simp only [Option.bind_some]
  by_cases h : t < 0
  · exact ⟨-1, by rw [if_pos h], by omega, fun h2 => by omega⟩
  · exact ⟨t, by rw [if_neg h], hta, hp⟩
theorem szKnotS_ev (l : List S145) (a : Int) (h0 : 0 ≤ a) (h1 : a ≤ 1048576) (hn : l.length ≤ 9223372036854775807) (hk : ∀ x ∈ l, x.f1.length ≤ 9223372036854775807) :
    ∃ r, Ev (fun k => laws_szKnotS.f k l a) r ∧ r ≤ a ∧ (0 ≤ r → (l.length : Int) ≤ a ∧ ∀ x ∈ l, (x.f1.length : Int) ≤ 1048576) := by
  by_cases h : a - (l.length : Int) < 0
  · refine ⟨-1, ⟨0, fun k _ => ?_⟩, by omega, fun h2 => by omega⟩
    show laws_szKnotS.f k l a = _
    unfold laws_szKnotS.f
    rw [w64 (by omega) (by omega), if_pos h]
  · obtain ⟨r, hr, hra, hq⟩ := ev_size (n := l.length) (L := fun k a i => laws_szKnotS.l0 k l a i) (E := fun _ i a => laws_szKnot.f (rd_T145 l i).f0 (rd_T145 l i).f1 a) (P := fun i => ((l.getD i z145).f1.length : Int) ≤ 1048576) hn (fun k a i => by simp only [laws_szKnotS.l0])
      (fun i a hi h2 h3 => by
        have hm : l.getD i z145 ∈ l := by rw [List.getD_eq_getElem?_getD, List.getElem?_eq_getElem hi]; exact List.getElem_mem hi
        obtain ⟨t, ht, hta, hp⟩ := szKnot_eq (rd_T145 l i).f0 (rd_T145 l i).f1 a h2 h3 (by rw [rd145_nat]; exact hk _ hm)
        exact ⟨t, ev_const ht, hta, fun h4 => by have := hp h4; rw [rd145_nat] at this; omega⟩) l.length 0 (a - (l.length : Int)) (by omega) (by omega) (by omega)
    refine ⟨r, ev_ext (fun k => ?_) hr, by omega, fun h2 => ⟨by omega, fun x hx => ?_⟩⟩
    · unfold laws_szKnotS.f
      rw [w64 (by omega) (by omega), if_neg h]; rfl
    · obtain ⟨i, hi, rfl⟩ := List.getElem_of_mem hx
      have := hq h2 i (by omega) hi
      rwa [List.getD_eq_getElem?_getD, List.getElem?_eq_getElem hi] at this
theorem szArena_ev (l : List S145) (a : Int) (h0 : 0 ≤ a) (h1 : a ≤ 1048576) (hn : l.length ≤ 9223372036854775807) (hk : ∀ x ∈ l, x.f1.length ≤ 9223372036854775807) :
    ∃ r, Ev (fun k => laws_szArena.f k l a) r ∧ r ≤ a ∧ (0 ≤ r → (l.length : Int) ≤ a ∧ ∀ x ∈ l, (x.f1.length : Int) ≤ 1048576) := by
  obtain ⟨r, hr, hra, hq⟩ := szKnotS_ev l a h0 h1 hn hk
  by_cases h : r < 0
  · exact ⟨-1, by unfold laws_szArena.f; exact ev_bind hr (by simp only [if_pos h]; exact Ev.now _), by omega, fun h2 => by omega⟩
  · exact ⟨r, by unfold laws_szArena.f; exact ev_bind hr (by simp only [if_neg h]; exact Ev.now _), hra, hq⟩
end Go.Proofs.Ytjlblibfbokjoaa.Pu
