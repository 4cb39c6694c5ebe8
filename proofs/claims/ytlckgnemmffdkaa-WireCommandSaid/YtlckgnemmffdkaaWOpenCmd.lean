/- An argument opened: weir/api.Command. (printed by gen_wopen.py) -/
import Derived.Test.YtlckgnemmffdkaaOpen
import Derived.Test.YtlckgnemmffdkaaWirCmd
namespace Go.Proofs.Ytlckgnemmffdkaa
open Go.ChangeShapes Go.WideShapes Go.ChangeAt Go.RowKit
set_option maxRecDepth 100000

theorem ints_flat (xs : List Int) : xs.map (Value.int .i64) = xs.flatMap cellsInt := by
  induction xs with
  | nil => rfl
  | cons x xs ih => rw [List.map_cons, List.flatMap_cons, ih]; rfl
theorem open_wcmd {H : Type} {enc : TypeId × Value → H} {w : World} {cs : List Value} (h : Rd enc Try.prog w 40 cs) : ∃ (v : WCmd) (p : PCmd), cs = cellsCmd v p ∧ goodWCmd v ∧ LowCmd w.heap.size w v p ∧ v.leases.length ≤ p.2 := by
  obtain ⟨hl, hf⟩ := h.struct Try.underlying40
  rw [show Try.prog.cellsOf 40 = 13 by kernel_rfl] at hl
  match cs, hl with
  | [v0, v1, v2, v3, v4, v5, v6, v7, v8, v9, v10, v11, v12], _ =>
    have f0 : Rd enc Try.prog w 30 ((([v0, v1, v2, v3, v4, v5, v6, v7, v8, v9, v10, v11, v12] : List Value).drop 0).take (Try.prog.cellsOf 30)) := hf 0 _ rfl
    rw [show Try.prog.cellsOf 30 = 1 by kernel_rfl] at f0
    replace f0 : Rd enc Try.prog w 30 [v0] := f0
    have f1 : Rd enc Try.prog w 3 ((([v0, v1, v2, v3, v4, v5, v6, v7, v8, v9, v10, v11, v12] : List Value).drop 1).take (Try.prog.cellsOf 3)) := hf 1 _ rfl
    rw [show Try.prog.cellsOf 3 = 1 by kernel_rfl] at f1
    replace f1 : Rd enc Try.prog w 3 [v1] := f1
    have f2 : Rd enc Try.prog w 3 ((([v0, v1, v2, v3, v4, v5, v6, v7, v8, v9, v10, v11, v12] : List Value).drop 2).take (Try.prog.cellsOf 3)) := hf 2 _ rfl
    rw [show Try.prog.cellsOf 3 = 1 by kernel_rfl] at f2
    replace f2 : Rd enc Try.prog w 3 [v2] := f2
    have f3 : Rd enc Try.prog w 3 ((([v0, v1, v2, v3, v4, v5, v6, v7, v8, v9, v10, v11, v12] : List Value).drop 3).take (Try.prog.cellsOf 3)) := hf 3 _ rfl
    rw [show Try.prog.cellsOf 3 = 1 by kernel_rfl] at f3
    replace f3 : Rd enc Try.prog w 3 [v3] := f3
    have f4 : Rd enc Try.prog w 3 ((([v0, v1, v2, v3, v4, v5, v6, v7, v8, v9, v10, v11, v12] : List Value).drop 4).take (Try.prog.cellsOf 3)) := hf 4 _ rfl
    rw [show Try.prog.cellsOf 3 = 1 by kernel_rfl] at f4
    replace f4 : Rd enc Try.prog w 3 [v4] := f4
    have f5 : Rd enc Try.prog w 3 ((([v0, v1, v2, v3, v4, v5, v6, v7, v8, v9, v10, v11, v12] : List Value).drop 5).take (Try.prog.cellsOf 3)) := hf 5 _ rfl
    rw [show Try.prog.cellsOf 3 = 1 by kernel_rfl] at f5
    replace f5 : Rd enc Try.prog w 3 [v5] := f5
    have f6 : Rd enc Try.prog w 3 ((([v0, v1, v2, v3, v4, v5, v6, v7, v8, v9, v10, v11, v12] : List Value).drop 6).take (Try.prog.cellsOf 3)) := hf 6 _ rfl
    rw [show Try.prog.cellsOf 3 = 1 by kernel_rfl] at f6
    replace f6 : Rd enc Try.prog w 3 [v6] := f6
    have f7 : Rd enc Try.prog w 3 ((([v0, v1, v2, v3, v4, v5, v6, v7, v8, v9, v10, v11, v12] : List Value).drop 7).take (Try.prog.cellsOf 3)) := hf 7 _ rfl
    rw [show Try.prog.cellsOf 3 = 1 by kernel_rfl] at f7
    replace f7 : Rd enc Try.prog w 3 [v7] := f7
    have f8 : Rd enc Try.prog w 3 ((([v0, v1, v2, v3, v4, v5, v6, v7, v8, v9, v10, v11, v12] : List Value).drop 8).take (Try.prog.cellsOf 3)) := hf 8 _ rfl
    rw [show Try.prog.cellsOf 3 = 1 by kernel_rfl] at f8
    replace f8 : Rd enc Try.prog w 3 [v8] := f8
    have f9 : Rd enc Try.prog w 3 ((([v0, v1, v2, v3, v4, v5, v6, v7, v8, v9, v10, v11, v12] : List Value).drop 9).take (Try.prog.cellsOf 3)) := hf 9 _ rfl
    rw [show Try.prog.cellsOf 3 = 1 by kernel_rfl] at f9
    replace f9 : Rd enc Try.prog w 3 [v9] := f9
    have f10 : Rd enc Try.prog w 3 ((([v0, v1, v2, v3, v4, v5, v6, v7, v8, v9, v10, v11, v12] : List Value).drop 10).take (Try.prog.cellsOf 3)) := hf 10 _ rfl
    rw [show Try.prog.cellsOf 3 = 1 by kernel_rfl] at f10
    replace f10 : Rd enc Try.prog w 3 [v10] := f10
    have f11 : Rd enc Try.prog w 4 ((([v0, v1, v2, v3, v4, v5, v6, v7, v8, v9, v10, v11, v12] : List Value).drop 11).take (Try.prog.cellsOf 4)) := hf 11 _ rfl
    rw [show Try.prog.cellsOf 4 = 1 by kernel_rfl] at f11
    replace f11 : Rd enc Try.prog w 4 [v11] := f11
    have f12 : Rd enc Try.prog w 38 ((([v0, v1, v2, v3, v4, v5, v6, v7, v8, v9, v10, v11, v12] : List Value).drop 12).take (Try.prog.cellsOf 38)) := hf 12 _ rfl
    rw [show Try.prog.cellsOf 38 = 1 by kernel_rfl] at f12
    replace f12 : Rd enc Try.prog w 38 [v12] := f12
    obtain ⟨x0, e0, g0⟩ := f0.int Try.underlying30
    replace g0 := bounds_i8 g0
    simp only [List.cons.injEq, and_true] at e0
    subst e0
    obtain ⟨x1, e1, g1⟩ := f1.int Try.underlying3
    replace g1 := bounds_i64 g1
    simp only [List.cons.injEq, and_true] at e1
    subst e1
    obtain ⟨x2, e2, g2⟩ := f2.int Try.underlying3
    replace g2 := bounds_i64 g2
    simp only [List.cons.injEq, and_true] at e2
    subst e2
    obtain ⟨x3, e3, g3⟩ := f3.int Try.underlying3
    replace g3 := bounds_i64 g3
    simp only [List.cons.injEq, and_true] at e3
    subst e3
    obtain ⟨x4, e4, g4⟩ := f4.int Try.underlying3
    replace g4 := bounds_i64 g4
    simp only [List.cons.injEq, and_true] at e4
    subst e4
    obtain ⟨x5, e5, g5⟩ := f5.int Try.underlying3
    replace g5 := bounds_i64 g5
    simp only [List.cons.injEq, and_true] at e5
    subst e5
    obtain ⟨x6, e6, g6⟩ := f6.int Try.underlying3
    replace g6 := bounds_i64 g6
    simp only [List.cons.injEq, and_true] at e6
    subst e6
    obtain ⟨x7, e7, g7⟩ := f7.int Try.underlying3
    replace g7 := bounds_i64 g7
    simp only [List.cons.injEq, and_true] at e7
    subst e7
    obtain ⟨x8, e8, g8⟩ := f8.int Try.underlying3
    replace g8 := bounds_i64 g8
    simp only [List.cons.injEq, and_true] at e8
    subst e8
    obtain ⟨x9, e9, g9⟩ := f9.int Try.underlying3
    replace g9 := bounds_i64 g9
    simp only [List.cons.injEq, and_true] at e9
    subst e9
    obtain ⟨x10, e10, g10⟩ := f10.int Try.underlying3
    replace g10 := bounds_i64 g10
    simp only [List.cons.injEq, and_true] at e10
    subst e10
    obtain ⟨x11, e11⟩ := f11.bool Try.underlying4
    simp only [List.cons.injEq, and_true] at e11
    subst e11
    have hs12 : ∃ a n c, v12 = .slice a n c := by
      rcases f12.slice Try.underlying38 with h1 | ⟨a, n, c, h1, _⟩
      · simp at h1; exact ⟨_, _, _, h1⟩
      · simp at h1; exact ⟨_, _, _, h1⟩
    obtain ⟨a12, n12, c12, rfl⟩ := hs12
    obtain ⟨l12, m12, nc12, cm12, -, g12, -, r12⟩ := f12.ints Try.underlying38 Try.underlying3 (by kernel_rfl)
    subst m12
    rw [ints_flat] at r12
    exact ⟨⟨x0, x1, x2, x3, x4, x5, x6, x7, x8, x9, x10, x11, l12⟩, (a12, c12), rfl, ⟨kindIn_of g0, inI_of g1, inI_of g2, inI_of g3, inI_of g4, inI_of g5, inI_of g6, inI_of g7, inI_of g8, inI_of g9, inI_of g10, trivial, short_of nc12 cm12, fun y hy => inI_of (bounds_i64 (g12 y hy))⟩, ⟨LowRow.of r12 (Nat.le_refl _)⟩, nc12⟩
end Go.Proofs.Ytlckgnemmffdkaa
