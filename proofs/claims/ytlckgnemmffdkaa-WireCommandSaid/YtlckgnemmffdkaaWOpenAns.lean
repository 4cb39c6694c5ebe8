/- An argument opened: weir/api.Answer. (printed by gen_wopen.py) -/
import Derived.Test.YtlckgnemmffdkaaOpen
import Derived.Test.YtlckgnemmffdkaaWirEnt
namespace Go.Proofs.Ytlckgnemmffdkaa
open Go.ChangeShapes Go.WideShapes Go.ChangeAt Go.RowKit
set_option maxRecDepth 100000

abbrev cellsWAns (x : WAns) : List Value := [.int .i64 x.e, .int .i64 x.rate, .int .i64 x.burst, .int .i64 x.lease, .int .i64 x.size]
theorem open_wans {H : Type} {enc : TypeId × Value → H} {w : World} {cs : List Value} (h : Rd enc Try.prog w 42 cs) : ∃ x : WAns, cs = cellsWAns x ∧ goodWAns x := by
  obtain ⟨hl, hf⟩ := h.struct Try.underlying42
  rw [show Try.prog.cellsOf 42 = 5 by kernel_rfl] at hl
  match cs, hl with
  | [v0, v1, v2, v3, v4], _ =>
    have f0 : Rd enc Try.prog w 24 ((([v0, v1, v2, v3, v4] : List Value).drop 0).take (Try.prog.cellsOf 24)) := hf 0 _ rfl
    rw [show Try.prog.cellsOf 24 = 1 by kernel_rfl] at f0
    replace f0 : Rd enc Try.prog w 24 [v0] := f0
    have f1 : Rd enc Try.prog w 3 ((([v0, v1, v2, v3, v4] : List Value).drop 1).take (Try.prog.cellsOf 3)) := hf 1 _ rfl
    rw [show Try.prog.cellsOf 3 = 1 by kernel_rfl] at f1
    replace f1 : Rd enc Try.prog w 3 [v1] := f1
    have f2 : Rd enc Try.prog w 3 ((([v0, v1, v2, v3, v4] : List Value).drop 2).take (Try.prog.cellsOf 3)) := hf 2 _ rfl
    rw [show Try.prog.cellsOf 3 = 1 by kernel_rfl] at f2
    replace f2 : Rd enc Try.prog w 3 [v2] := f2
    have f3 : Rd enc Try.prog w 3 ((([v0, v1, v2, v3, v4] : List Value).drop 3).take (Try.prog.cellsOf 3)) := hf 3 _ rfl
    rw [show Try.prog.cellsOf 3 = 1 by kernel_rfl] at f3
    replace f3 : Rd enc Try.prog w 3 [v3] := f3
    have f4 : Rd enc Try.prog w 3 ((([v0, v1, v2, v3, v4] : List Value).drop 4).take (Try.prog.cellsOf 3)) := hf 4 _ rfl
    rw [show Try.prog.cellsOf 3 = 1 by kernel_rfl] at f4
    replace f4 : Rd enc Try.prog w 3 [v4] := f4
    obtain ⟨x0, e0, g0⟩ := f0.int Try.underlying24
    replace g0 := bounds_i64 g0
    simp only [List.cons.injEq, and_true] at e0
    subst e0
    obtain ⟨x1, e1, g1⟩ := f1.int Try.underlying3
    replace g1 := bounds_i64 g1
    simp only [List.cons.injEq, and_true] at e1
    subst e1
    obtain ⟨x2, e2, g2⟩ := f2.int Try.underlying3
    replace g2 := bounds_i64 g2
    simp only [List.cons.injEq, and_true] at e2
    subst e2
    obtain ⟨x3, e3, g3⟩ := f3.int Try.underlying3
    replace g3 := bounds_i64 g3
    simp only [List.cons.injEq, and_true] at e3
    subst e3
    obtain ⟨x4, e4, g4⟩ := f4.int Try.underlying3
    replace g4 := bounds_i64 g4
    simp only [List.cons.injEq, and_true] at e4
    subst e4
    exact ⟨⟨x0, x1, x2, x3, x4⟩, rfl, inI_of g0, inI_of g1, inI_of g2, inI_of g3, inI_of g4⟩
end Go.Proofs.Ytlckgnemmffdkaa
