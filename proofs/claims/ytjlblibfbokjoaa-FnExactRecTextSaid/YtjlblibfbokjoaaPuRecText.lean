/- The bytes of a record; the program's and the reference's RecText tell them. -/
import Derived.Test.YtjlblibfbokjoaaPuRec
import Derived.Test.YtjlblibfbokjoaaPuVar
import Derived.Test.YtjlblibfbokjoaaPAx14
import Derived.Test.YtjlblibfbokjoaaPAx17
namespace Go.Proofs.Ytjlblibfbokjoaa.Pu
open Go.RowKit Go.Proofs.Ytjlblibfbokjoaa.PA Go.Proofs.YtjlblibfbokjoaaW.PrintWords

def recText (t v a c : Int) : ByteArray := (strOfNums [(16 * t + v) % 256] ++ strOfNums (varL a.toNat)) ++ strOfNums (varL c.toNat)
def recTextR (t v a c : Int) : ByteArray × Bool := if recOk t v a c = true then (recText t v a c, true) else (⟨#[]⟩, false)
theorem iRecText_ev (t v a c : Int) : Ev (fun k => impl_RecText.f k t v a c) (recTextR t v a c) := by
  unfold impl_RecText.f recTextR
  refine ev_bind (iRecOk_ev t v a c) ?_
  by_cases h : recOk t v a c = true
  · obtain ⟨h1, h2, h3, h4, h5, h6, h7, h8⟩ := recOk_range h
    have s1 := varL_len5 (n := a.toNat) (by omega)
    have s2 := varL_len5 (n := c.toNat) (by omega)
    simp only [if_pos h, Option.bind_some]
    refine ev_bind (varOf_ev h5 h6) ?_
    rw [w64 (x := 16 * t) (by omega) (by omega), w64 (x := 16 * t + v) (by omega) (by omega)]
    simp only [strOf_size, List.length_cons, List.length_nil, if_pos (show 0 + 1 + (varL a.toNat).length ≤ 9223372036854775807 by omega)]
    refine ev_bind (varOf_ev h7 h8) ?_
    simp only [strOf_size, if_pos (show 0 + 1 + (varL a.toNat).length + (varL c.toNat).length ≤ 9223372036854775807 by omega)]
    exact Ev.now _
  · simp only [if_neg h]
    exact Ev.now _
theorem sRecText_ev (t v a c : Int) : Ev (fun k => spec_RecText.f k t v a c) (recTextR t v a c) := by
  unfold spec_RecText.f recTextR spec_l06Byte.f
  refine ev_bind (sRecOk_ev t v a c) ?_
  by_cases h : recOk t v a c = true
  · obtain ⟨h1, h2, h3, h4, h5, h6, h7, h8⟩ := recOk_range h
    have s1 := varL_len5 (n := a.toNat) (by omega)
    have s2 := varL_len5 (n := c.toNat) (by omega)
    simp only [if_pos h, Option.bind_some]
    refine ev_bind (l01Var_ev h5 h6) ?_
    rw [w64 (x := 16 * t) (by omega) (by omega), w64 (x := 16 * t + v) (by omega) (by omega)]
    simp only [strOf_size, List.length_cons, List.length_nil, if_pos (show 0 + 1 + (varL a.toNat).length ≤ 9223372036854775807 by omega)]
    refine ev_bind (l01Var_ev h7 h8) ?_
    simp only [strOf_size, if_pos (show 0 + 1 + (varL a.toNat).length + (varL c.toNat).length ≤ 9223372036854775807 by omega)]
    exact Ev.now _
  · simp only [if_neg h]
    exact Ev.now _
end Go.Proofs.Ytjlblibfbokjoaa.Pu
