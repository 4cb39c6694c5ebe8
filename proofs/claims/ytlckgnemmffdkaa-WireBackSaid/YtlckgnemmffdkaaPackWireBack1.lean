import Derived.Test.YtlckgnemmffdkaaPackWireMessage1
import Derived.Test.YtlckgnemmffdkaaWirCmd
import Derived.Test.YtlckgnemmffdkaaPackWireMessage5
import Derived.Test.YtlckgnemmffdkaaPackWireMessage3
import Derived.Test.YtlckgnemmffdkaaWirSt
import Derived.Test.YtlckgnemmffdkaaPackWireMessage6
import Derived.Test.YtlckgnemmffdkaaWirUnf
import Derived.Test.YtlckgnemmffdkaaWirSameM
import Derived.Test.YtlckgnemmffdkaaWirTopCmd
import Derived.Deep.QuietTactic
import Derived.BigQuiet
import Derived.Test.YtlckgnemmffdkaaPackWireMessage4
set_option linter.unusedVariables false
set_option linter.unusedSimpArgs false
/- An argument opened: weir/api.Command. (printed by gen_wopen.py) -/
namespace Go.Proofs.Ytlckgnemmffdkaa
open Go.ChangeShapes Go.WideShapes Go.ChangeAt Go.RowKit
set_option maxRecDepth 100000

theorem ints_flat (xs : List Int) : xs.map (Value.int .i64) = xs.flatMap cellsInt := by
  induction xs with
  | nil => rfl
  | cons x xs ih => rw [List.map_cons, List.flatMap_cons, ih]; rfl
theorem open_wcmd {H : Type} {enc : TypeId × Value → H} {w : World} {cs : List Value} (h : Rd enc Try.prog w 40 cs) : ∃ (v : WCmd) (p : PCmd), cs = cellsCmd v p ∧ goodWCmd v ∧ LowCmd w.heap.size w v p ∧ v.leases.length ≤ p.2 := by
  obtain ⟨hl, hf⟩ := h.struct Try.underlying40
  rw [show Try.prog.cellsOf 40 = 13 by kernel_rfl] at hl
  match cs, hl with
  | [v0, v1, v2, v3, v4, v5, v6, v7, v8, v9, v10, v11, v12], _ =>
    have f0 : Rd enc Try.prog w 30 ((([v0, v1, v2, v3, v4, v5, v6, v7, v8, v9, v10, v11, v12] : List Value).drop 0).take (Try.prog.cellsOf 30)) := hf 0 _ rfl
    rw [show Try.prog.cellsOf 30 = 1 by kernel_rfl] at f0
    replace f0 : Rd enc Try.prog w 30 [v0] := f0
    have f1 : Rd enc Try.prog w 3 ((([v0, v1, v2, v3, v4, v5, v6, v7, v8, v9, v10, v11, v12] : List Value).drop 1).take (Try.prog.cellsOf 3)) := hf 1 _ rfl
    rw [show Try.prog.cellsOf 3 = 1 by kernel_rfl] at f1
    replace f1 : Rd enc Try.prog w 3 [v1] := f1
    have f2 : Rd enc Try.prog w 3 ((([v0, v1, v2, v3, v4, v5, v6, v7, v8, v9, v10, v11, v12] : List Value).drop 2).take (Try.prog.cellsOf 3)) := hf 2 _ rfl
    rw [show Try.prog.cellsOf 3 = 1 by kernel_rfl] at f2
    replace f2 : Rd enc Try.prog w 3 [v2] := f2
    have f3 : Rd enc Try.prog w 3 ((([v0, v1, v2, v3, v4, v5, v6, v7, v8, v9, v10, v11, v12] : List Value).drop 3).take (Try.prog.cellsOf 3)) := hf 3 _ rfl
    rw [show Try.prog.cellsOf 3 = 1 by kernel_rfl] at f3
    replace f3 : Rd enc Try.prog w 3 [v3] := f3
    have f4 : Rd enc Try.prog w 3 ((([v0, v1, v2, v3, v4, v5, v6, v7, v8, v9, v10, v11, v12] : List Value).drop 4).take (Try.prog.cellsOf 3)) := hf 4 _ rfl
    rw [show Try.prog.cellsOf 3 = 1 by kernel_rfl] at f4
    replace f4 : Rd enc Try.prog w 3 [v4] := f4
    have f5 : Rd enc Try.prog w 3 ((([v0, v1, v2, v3, v4, v5, v6, v7, v8, v9, v10, v11, v12] : List Value).drop 5).take (Try.prog.cellsOf 3)) := hf 5 _ rfl
    rw [show Try.prog.cellsOf 3 = 1 by kernel_rfl] at f5
    replace f5 : Rd enc Try.prog w 3 [v5] := f5
    have f6 : Rd enc Try.prog w 3 ((([v0, v1, v2, v3, v4, v5, v6, v7, v8, v9, v10, v11, v12] : List Value).drop 6).take (Try.prog.cellsOf 3)) := hf 6 _ rfl
    rw [show Try.prog.cellsOf 3 = 1 by kernel_rfl] at f6
    replace f6 : Rd enc Try.prog w 3 [v6] := f6
    have f7 : Rd enc Try.prog w 3 ((([v0, v1, v2, v3, v4, v5, v6, v7, v8, v9, v10, v11, v12] : List Value).drop 7).take (Try.prog.cellsOf 3)) := hf 7 _ rfl
    rw [show Try.prog.cellsOf 3 = 1 by kernel_rfl] at f7
    replace f7 : Rd enc Try.prog w 3 [v7] := f7
    have f8 : Rd enc Try.prog w 3 ((([v0, v1, v2, v3, v4, v5, v6, v7, v8, v9, v10, v11, v12] : List Value).drop 8).take (Try.prog.cellsOf 3)) := hf 8 _ rfl
    rw [show Try.prog.cellsOf 3 = 1 by kernel_rfl] at f8
    replace f8 : Rd enc Try.prog w 3 [v8] := f8
    have f9 : Rd enc Try.prog w 3 ((([v0, v1, v2, v3, v4, v5, v6, v7, v8, v9, v10, v11, v12] : List Value).drop 9).take (Try.prog.cellsOf 3)) := hf 9 _ rfl
    rw [show Try.prog.cellsOf 3 = 1 by kernel_rfl] at f9
    replace f9 : Rd enc Try.prog w 3 [v9] := f9
    have f10 : Rd enc Try.prog w 3 ((([v0, v1, v2, v3, v4, v5, v6, v7, v8, v9, v10, v11, v12] : List Value).drop 10).take (Try.prog.cellsOf 3)) := hf 10 _ rfl
    rw [show Try.prog.cellsOf 3 = 1 by kernel_rfl] at f10
    replace f10 : Rd enc Try.prog w 3 [v10] := f10
    have f11 : Rd enc Try.prog w 4 ((([v0, v1, v2, v3, v4, v5, v6, v7, v8, v9, v10, v11, v12] : List Value).drop 11).take (Try.prog.cellsOf 4)) := hf 11 _ rfl
    rw [show Try.prog.cellsOf 4 = 1 by kernel_rfl] at f11
    replace f11 : Rd enc Try.prog w 4 [v11] := f11
    have f12 : Rd enc Try.prog w 38 ((([v0, v1, v2, v3, v4, v5, v6, v7, v8, v9, v10, v11, v12] : List Value).drop 12).take (Try.prog.cellsOf 38)) := hf 12 _ rfl
    rw [show Try.prog.cellsOf 38 = 1 by kernel_rfl] at f12
    replace f12 : Rd enc Try.prog w 38 [v12] := f12
    obtain ⟨x0, e0, g0⟩ := f0.int Try.underlying30
    replace g0 := bounds_i8 g0
    simp only [List.cons.injEq, and_true] at e0
    subst e0
    obtain ⟨x1, e1, g1⟩ := f1.int Try.underlying3
    replace g1 := bounds_i64 g1
    simp only [List.cons.injEq, and_true] at e1
    subst e1
    obtain ⟨x2, e2, g2⟩ := f2.int Try.underlying3
    replace g2 := bounds_i64 g2
    simp only [List.cons.injEq, and_true] at e2
    subst e2
    obtain ⟨x3, e3, g3⟩ := f3.int Try.underlying3
    replace g3 := bounds_i64 g3
    simp only [List.cons.injEq, and_true] at e3
    subst e3
    obtain ⟨x4, e4, g4⟩ := f4.int Try.underlying3
    replace g4 := bounds_i64 g4
    simp only [List.cons.injEq, and_true] at e4
    subst e4
    obtain ⟨x5, e5, g5⟩ := f5.int Try.underlying3
    replace g5 := bounds_i64 g5
    simp only [List.cons.injEq, and_true] at e5
    subst e5
    obtain ⟨x6, e6, g6⟩ := f6.int Try.underlying3
    replace g6 := bounds_i64 g6
    simp only [List.cons.injEq, and_true] at e6
    subst e6
    obtain ⟨x7, e7, g7⟩ := f7.int Try.underlying3
    replace g7 := bounds_i64 g7
    simp only [List.cons.injEq, and_true] at e7
    subst e7
    obtain ⟨x8, e8, g8⟩ := f8.int Try.underlying3
    replace g8 := bounds_i64 g8
    simp only [List.cons.injEq, and_true] at e8
    subst e8
    obtain ⟨x9, e9, g9⟩ := f9.int Try.underlying3
    replace g9 := bounds_i64 g9
    simp only [List.cons.injEq, and_true] at e9
    subst e9
    obtain ⟨x10, e10, g10⟩ := f10.int Try.underlying3
    replace g10 := bounds_i64 g10
    simp only [List.cons.injEq, and_true] at e10
    subst e10
    obtain ⟨x11, e11⟩ := f11.bool Try.underlying4
    simp only [List.cons.injEq, and_true] at e11
    subst e11
    have hs12 : ∃ a n c, v12 = .slice a n c := by
      rcases f12.slice Try.underlying38 with h1 | ⟨a, n, c, h1, _⟩
      · simp at h1; exact ⟨_, _, _, h1⟩
      · simp at h1; exact ⟨_, _, _, h1⟩
    obtain ⟨a12, n12, c12, rfl⟩ := hs12
    obtain ⟨l12, m12, nc12, cm12, -, g12, -, r12⟩ := f12.ints Try.underlying38 Try.underlying3 (by kernel_rfl)
    subst m12
    rw [ints_flat] at r12
    exact ⟨⟨x0, x1, x2, x3, x4, x5, x6, x7, x8, x9, x10, x11, l12⟩, (a12, c12), rfl, ⟨kindIn_of g0, inI_of g1, inI_of g2, inI_of g3, inI_of g4, inI_of g5, inI_of g6, inI_of g7, inI_of g8, inI_of g9, inI_of g10, trivial, short_of nc12 cm12, fun y hy => inI_of (bounds_i64 (g12 y hy))⟩, ⟨LowRow.of r12 (Nat.le_refl _)⟩, nc12⟩
end Go.Proofs.Ytlckgnemmffdkaa

/- An argument opened: weir/api.Tenant. (printed by gen_wopen.py) -/
namespace Go.Proofs.Ytlckgnemmffdkaa
open Go.ChangeShapes Go.WideShapes Go.ChangeAt Go.RowKit
set_option maxRecDepth 100000

theorem open_wten {H : Type} {enc : TypeId × Value → H} {w : World} {cs : List Value} (h : Rd enc Try.prog w 115 cs) : ∃ x : WTen, cs = cellsWTen x ∧ goodWTen x := by
  obtain ⟨hl, hf⟩ := h.struct Try.underlying115
  rw [show Try.prog.cellsOf 115 = 5 by kernel_rfl] at hl
  match cs, hl with
  | [v0, v1, v2, v3, v4], _ =>
    have f0 : Rd enc Try.prog w 3 ((([v0, v1, v2, v3, v4] : List Value).drop 0).take (Try.prog.cellsOf 3)) := hf 0 _ rfl
    rw [show Try.prog.cellsOf 3 = 1 by kernel_rfl] at f0
    replace f0 : Rd enc Try.prog w 3 [v0] := f0
    have f1 : Rd enc Try.prog w 3 ((([v0, v1, v2, v3, v4] : List Value).drop 1).take (Try.prog.cellsOf 3)) := hf 1 _ rfl
    rw [show Try.prog.cellsOf 3 = 1 by kernel_rfl] at f1
    replace f1 : Rd enc Try.prog w 3 [v1] := f1
    have f2 : Rd enc Try.prog w 3 ((([v0, v1, v2, v3, v4] : List Value).drop 2).take (Try.prog.cellsOf 3)) := hf 2 _ rfl
    rw [show Try.prog.cellsOf 3 = 1 by kernel_rfl] at f2
    replace f2 : Rd enc Try.prog w 3 [v2] := f2
    have f3 : Rd enc Try.prog w 3 ((([v0, v1, v2, v3, v4] : List Value).drop 3).take (Try.prog.cellsOf 3)) := hf 3 _ rfl
    rw [show Try.prog.cellsOf 3 = 1 by kernel_rfl] at f3
    replace f3 : Rd enc Try.prog w 3 [v3] := f3
    have f4 : Rd enc Try.prog w 4 ((([v0, v1, v2, v3, v4] : List Value).drop 4).take (Try.prog.cellsOf 4)) := hf 4 _ rfl
    rw [show Try.prog.cellsOf 4 = 1 by kernel_rfl] at f4
    replace f4 : Rd enc Try.prog w 4 [v4] := f4
    obtain ⟨x0, e0, g0⟩ := f0.int Try.underlying3
    replace g0 := bounds_i64 g0
    simp only [List.cons.injEq, and_true] at e0
    subst e0
    obtain ⟨x1, e1, g1⟩ := f1.int Try.underlying3
    replace g1 := bounds_i64 g1
    simp only [List.cons.injEq, and_true] at e1
    subst e1
    obtain ⟨x2, e2, g2⟩ := f2.int Try.underlying3
    replace g2 := bounds_i64 g2
    simp only [List.cons.injEq, and_true] at e2
    subst e2
    obtain ⟨x3, e3, g3⟩ := f3.int Try.underlying3
    replace g3 := bounds_i64 g3
    simp only [List.cons.injEq, and_true] at e3
    subst e3
    obtain ⟨x4, e4⟩ := f4.bool Try.underlying4
    simp only [List.cons.injEq, and_true] at e4
    subst e4
    exact ⟨⟨x0, x1, x2, x3, x4⟩, rfl, inI_of g0, inI_of g1, inI_of g2, inI_of g3, trivial⟩
end Go.Proofs.Ytlckgnemmffdkaa

/- An argument opened: weir/api.Lease. (printed by gen_wopen.py) -/
namespace Go.Proofs.Ytlckgnemmffdkaa
open Go.ChangeShapes Go.WideShapes Go.ChangeAt Go.RowKit
set_option maxRecDepth 100000

theorem open_wlea {H : Type} {enc : TypeId × Value → H} {w : World} {cs : List Value} (h : Rd enc Try.prog w 118 cs) : ∃ x : WLea, cs = cellsWLea x ∧ goodWLea x := by
  obtain ⟨hl, hf⟩ := h.struct Try.underlying118
  rw [show Try.prog.cellsOf 118 = 7 by kernel_rfl] at hl
  match cs, hl with
  | [v0, v1, v2, v3, v4, v5, v6], _ =>
    have f0 : Rd enc Try.prog w 3 ((([v0, v1, v2, v3, v4, v5, v6] : List Value).drop 0).take (Try.prog.cellsOf 3)) := hf 0 _ rfl
    rw [show Try.prog.cellsOf 3 = 1 by kernel_rfl] at f0
    replace f0 : Rd enc Try.prog w 3 [v0] := f0
    have f1 : Rd enc Try.prog w 3 ((([v0, v1, v2, v3, v4, v5, v6] : List Value).drop 1).take (Try.prog.cellsOf 3)) := hf 1 _ rfl
    rw [show Try.prog.cellsOf 3 = 1 by kernel_rfl] at f1
    replace f1 : Rd enc Try.prog w 3 [v1] := f1
    have f2 : Rd enc Try.prog w 3 ((([v0, v1, v2, v3, v4, v5, v6] : List Value).drop 2).take (Try.prog.cellsOf 3)) := hf 2 _ rfl
    rw [show Try.prog.cellsOf 3 = 1 by kernel_rfl] at f2
    replace f2 : Rd enc Try.prog w 3 [v2] := f2
    have f3 : Rd enc Try.prog w 3 ((([v0, v1, v2, v3, v4, v5, v6] : List Value).drop 3).take (Try.prog.cellsOf 3)) := hf 3 _ rfl
    rw [show Try.prog.cellsOf 3 = 1 by kernel_rfl] at f3
    replace f3 : Rd enc Try.prog w 3 [v3] := f3
    have f4 : Rd enc Try.prog w 3 ((([v0, v1, v2, v3, v4, v5, v6] : List Value).drop 4).take (Try.prog.cellsOf 3)) := hf 4 _ rfl
    rw [show Try.prog.cellsOf 3 = 1 by kernel_rfl] at f4
    replace f4 : Rd enc Try.prog w 3 [v4] := f4
    have f5 : Rd enc Try.prog w 3 ((([v0, v1, v2, v3, v4, v5, v6] : List Value).drop 5).take (Try.prog.cellsOf 3)) := hf 5 _ rfl
    rw [show Try.prog.cellsOf 3 = 1 by kernel_rfl] at f5
    replace f5 : Rd enc Try.prog w 3 [v5] := f5
    have f6 : Rd enc Try.prog w 3 ((([v0, v1, v2, v3, v4, v5, v6] : List Value).drop 6).take (Try.prog.cellsOf 3)) := hf 6 _ rfl
    rw [show Try.prog.cellsOf 3 = 1 by kernel_rfl] at f6
    replace f6 : Rd enc Try.prog w 3 [v6] := f6
    obtain ⟨x0, e0, g0⟩ := f0.int Try.underlying3
    replace g0 := bounds_i64 g0
    simp only [List.cons.injEq, and_true] at e0
    subst e0
    obtain ⟨x1, e1, g1⟩ := f1.int Try.underlying3
    replace g1 := bounds_i64 g1
    simp only [List.cons.injEq, and_true] at e1
    subst e1
    obtain ⟨x2, e2, g2⟩ := f2.int Try.underlying3
    replace g2 := bounds_i64 g2
    simp only [List.cons.injEq, and_true] at e2
    subst e2
    obtain ⟨x3, e3, g3⟩ := f3.int Try.underlying3
    replace g3 := bounds_i64 g3
    simp only [List.cons.injEq, and_true] at e3
    subst e3
    obtain ⟨x4, e4, g4⟩ := f4.int Try.underlying3
    replace g4 := bounds_i64 g4
    simp only [List.cons.injEq, and_true] at e4
    subst e4
    obtain ⟨x5, e5, g5⟩ := f5.int Try.underlying3
    replace g5 := bounds_i64 g5
    simp only [List.cons.injEq, and_true] at e5
    subst e5
    obtain ⟨x6, e6, g6⟩ := f6.int Try.underlying3
    replace g6 := bounds_i64 g6
    simp only [List.cons.injEq, and_true] at e6
    subst e6
    exact ⟨⟨x0, x1, x2, x3, x4, x5, x6⟩, rfl, inI_of g0, inI_of g1, inI_of g2, inI_of g3, inI_of g4, inI_of g5, inI_of g6⟩
end Go.Proofs.Ytlckgnemmffdkaa

/- An argument opened: weir/api.Answer. (printed by gen_wopen.py) -/
namespace Go.Proofs.Ytlckgnemmffdkaa
open Go.ChangeShapes Go.WideShapes Go.ChangeAt Go.RowKit
set_option maxRecDepth 100000

abbrev cellsWAns (x : WAns) : List Value := [.int .i64 x.e, .int .i64 x.rate, .int .i64 x.burst, .int .i64 x.lease, .int .i64 x.size]
theorem open_wans {H : Type} {enc : TypeId × Value → H} {w : World} {cs : List Value} (h : Rd enc Try.prog w 42 cs) : ∃ x : WAns, cs = cellsWAns x ∧ goodWAns x := by
  obtain ⟨hl, hf⟩ := h.struct Try.underlying42
  rw [show Try.prog.cellsOf 42 = 5 by kernel_rfl] at hl
  match cs, hl with
  | [v0, v1, v2, v3, v4], _ =>
    have f0 : Rd enc Try.prog w 24 ((([v0, v1, v2, v3, v4] : List Value).drop 0).take (Try.prog.cellsOf 24)) := hf 0 _ rfl
    rw [show Try.prog.cellsOf 24 = 1 by kernel_rfl] at f0
    replace f0 : Rd enc Try.prog w 24 [v0] := f0
    have f1 : Rd enc Try.prog w 3 ((([v0, v1, v2, v3, v4] : List Value).drop 1).take (Try.prog.cellsOf 3)) := hf 1 _ rfl
    rw [show Try.prog.cellsOf 3 = 1 by kernel_rfl] at f1
    replace f1 : Rd enc Try.prog w 3 [v1] := f1
    have f2 : Rd enc Try.prog w 3 ((([v0, v1, v2, v3, v4] : List Value).drop 2).take (Try.prog.cellsOf 3)) := hf 2 _ rfl
    rw [show Try.prog.cellsOf 3 = 1 by kernel_rfl] at f2
    replace f2 : Rd enc Try.prog w 3 [v2] := f2
    have f3 : Rd enc Try.prog w 3 ((([v0, v1, v2, v3, v4] : List Value).drop 3).take (Try.prog.cellsOf 3)) := hf 3 _ rfl
    rw [show Try.prog.cellsOf 3 = 1 by kernel_rfl] at f3
    replace f3 : Rd enc Try.prog w 3 [v3] := f3
    have f4 : Rd enc Try.prog w 3 ((([v0, v1, v2, v3, v4] : List Value).drop 4).take (Try.prog.cellsOf 3)) := hf 4 _ rfl
    rw [show Try.prog.cellsOf 3 = 1 by kernel_rfl] at f4
    replace f4 : Rd enc Try.prog w 3 [v4] := f4
    obtain ⟨x0, e0, g0⟩ := f0.int Try.underlying24
    replace g0 := bounds_i64 g0
    simp only [List.cons.injEq, and_true] at e0
    subst e0
    obtain ⟨x1, e1, g1⟩ := f1.int Try.underlying3
    replace g1 := bounds_i64 g1
    simp only [List.cons.injEq, and_true] at e1
    subst e1
    obtain ⟨x2, e2, g2⟩ := f2.int Try.underlying3
    replace g2 := bounds_i64 g2
    simp only [List.cons.injEq, and_true] at e2
    subst e2
    obtain ⟨x3, e3, g3⟩ := f3.int Try.underlying3
    replace g3 := bounds_i64 g3
    simp only [List.cons.injEq, and_true] at e3
    subst e3
    obtain ⟨x4, e4, g4⟩ := f4.int Try.underlying3
    replace g4 := bounds_i64 g4
    simp only [List.cons.injEq, and_true] at e4
    subst e4
    exact ⟨⟨x0, x1, x2, x3, x4⟩, rfl, inI_of g0, inI_of g1, inI_of g2, inI_of g3, inI_of g4⟩
end Go.Proofs.Ytlckgnemmffdkaa

/- An argument opened: weir/api.Session. (printed by gen_wopen.py) -/
namespace Go.Proofs.Ytlckgnemmffdkaa
open Go.ChangeShapes Go.WideShapes Go.ChangeAt Go.RowKit
set_option maxRecDepth 100000

theorem open_wses {H : Type} {enc : TypeId × Value → H} {w : World} {cs : List Value} (h : Rd enc Try.prog w 120 cs) : ∃ x : WSes, cs = cellsWSes x ∧ goodWSes x := by
  obtain ⟨hl, hf⟩ := h.struct Try.underlying120
  rw [show Try.prog.cellsOf 120 = 7 by kernel_rfl] at hl
  match cs, hl with
  | [v0, v1, v2, v3, v4, v5, v6], _ =>
    have f0 : Rd enc Try.prog w 3 ((([v0, v1, v2, v3, v4, v5, v6] : List Value).drop 0).take (Try.prog.cellsOf 3)) := hf 0 _ rfl
    rw [show Try.prog.cellsOf 3 = 1 by kernel_rfl] at f0
    replace f0 : Rd enc Try.prog w 3 [v0] := f0
    have f1 : Rd enc Try.prog w 3 ((([v0, v1, v2, v3, v4, v5, v6] : List Value).drop 1).take (Try.prog.cellsOf 3)) := hf 1 _ rfl
    rw [show Try.prog.cellsOf 3 = 1 by kernel_rfl] at f1
    replace f1 : Rd enc Try.prog w 3 [v1] := f1
    have f2 : Rd enc Try.prog w 42 ((([v0, v1, v2, v3, v4, v5, v6] : List Value).drop 2).take (Try.prog.cellsOf 42)) := hf 2 _ rfl
    rw [show Try.prog.cellsOf 42 = 5 by kernel_rfl] at f2
    replace f2 : Rd enc Try.prog w 42 [v2, v3, v4, v5, v6] := f2
    obtain ⟨x0, e0, g0⟩ := f0.int Try.underlying3
    replace g0 := bounds_i64 g0
    simp only [List.cons.injEq, and_true] at e0
    subst e0
    obtain ⟨x1, e1, g1⟩ := f1.int Try.underlying3
    replace g1 := bounds_i64 g1
    simp only [List.cons.injEq, and_true] at e1
    subst e1
    obtain ⟨x2, e2, g2⟩ := open_wans f2
    simp only [cellsWAns, List.cons.injEq, and_true] at e2
    obtain ⟨rfl, rfl, rfl, rfl, rfl⟩ := e2
    exact ⟨⟨x0, x1, x2⟩, rfl, inI_of g0, inI_of g1, g2⟩
end Go.Proofs.Ytlckgnemmffdkaa

/- An argument opened: weir/api.Desk. (printed by gen_wopen.py) -/
namespace Go.Proofs.Ytlckgnemmffdkaa
open Go.ChangeShapes Go.WideShapes Go.ChangeAt Go.RowKit
set_option maxRecDepth 100000

theorem open_wdsk {H : Type} {enc : TypeId × Value → H} {w : World} {cs : List Value} (h : Rd enc Try.prog w 122 cs) : ∃ x : WDsk, cs = cellsWDsk x ∧ goodWDsk x := by
  obtain ⟨hl, hf⟩ := h.struct Try.underlying122
  rw [show Try.prog.cellsOf 122 = 8 by kernel_rfl] at hl
  match cs, hl with
  | [v0, v1, v2, v3, v4, v5, v6, v7], _ =>
    have f0 : Rd enc Try.prog w 3 ((([v0, v1, v2, v3, v4, v5, v6, v7] : List Value).drop 0).take (Try.prog.cellsOf 3)) := hf 0 _ rfl
    rw [show Try.prog.cellsOf 3 = 1 by kernel_rfl] at f0
    replace f0 : Rd enc Try.prog w 3 [v0] := f0
    have f1 : Rd enc Try.prog w 3 ((([v0, v1, v2, v3, v4, v5, v6, v7] : List Value).drop 1).take (Try.prog.cellsOf 3)) := hf 1 _ rfl
    rw [show Try.prog.cellsOf 3 = 1 by kernel_rfl] at f1
    replace f1 : Rd enc Try.prog w 3 [v1] := f1
    have f2 : Rd enc Try.prog w 3 ((([v0, v1, v2, v3, v4, v5, v6, v7] : List Value).drop 2).take (Try.prog.cellsOf 3)) := hf 2 _ rfl
    rw [show Try.prog.cellsOf 3 = 1 by kernel_rfl] at f2
    replace f2 : Rd enc Try.prog w 3 [v2] := f2
    have f3 : Rd enc Try.prog w 42 ((([v0, v1, v2, v3, v4, v5, v6, v7] : List Value).drop 3).take (Try.prog.cellsOf 42)) := hf 3 _ rfl
    rw [show Try.prog.cellsOf 42 = 5 by kernel_rfl] at f3
    replace f3 : Rd enc Try.prog w 42 [v3, v4, v5, v6, v7] := f3
    obtain ⟨x0, e0, g0⟩ := f0.int Try.underlying3
    replace g0 := bounds_i64 g0
    simp only [List.cons.injEq, and_true] at e0
    subst e0
    obtain ⟨x1, e1, g1⟩ := f1.int Try.underlying3
    replace g1 := bounds_i64 g1
    simp only [List.cons.injEq, and_true] at e1
    subst e1
    obtain ⟨x2, e2, g2⟩ := f2.int Try.underlying3
    replace g2 := bounds_i64 g2
    simp only [List.cons.injEq, and_true] at e2
    subst e2
    obtain ⟨x3, e3, g3⟩ := open_wans f3
    simp only [cellsWAns, List.cons.injEq, and_true] at e3
    obtain ⟨rfl, rfl, rfl, rfl, rfl⟩ := e3
    exact ⟨⟨x0, x1, x2, x3⟩, rfl, inI_of g0, inI_of g1, inI_of g2, g3⟩
end Go.Proofs.Ytlckgnemmffdkaa

/- An argument opened: weir/api.State. (printed by gen_wopen.py) -/
namespace Go.Proofs.Ytlckgnemmffdkaa
open Go.ChangeShapes Go.WideShapes Go.ChangeAt Go.RowKit
set_option maxRecDepth 100000

theorem open_wst {H : Type} {enc : TypeId × Value → H} {w : World} {cs : List Value} (h : Rd enc Try.prog w 56 cs) : ∃ (v : WSt) (p : PSt), cs = cellsSt v p ∧ goodWSt v ∧ LowSt w.heap.size w v p ∧ v.tens.length ≤ 1000000000000000 ∧ v.leas.length ≤ 1000000000000000 ∧ v.sess.length ≤ 1000000000000000 ∧ v.dsks.length ≤ 1000000000000000 := by
  obtain ⟨hl, hf⟩ := h.struct Try.underlying56
  rw [show Try.prog.cellsOf 56 = 7 by kernel_rfl] at hl
  match cs, hl with
  | [v0, v1, v2, v3, v4, v5, v6], _ =>
    have f0 : Rd enc Try.prog w 3 ((([v0, v1, v2, v3, v4, v5, v6] : List Value).drop 0).take (Try.prog.cellsOf 3)) := hf 0 _ rfl
    rw [show Try.prog.cellsOf 3 = 1 by kernel_rfl] at f0
    replace f0 : Rd enc Try.prog w 3 [v0] := f0
    have f1 : Rd enc Try.prog w 3 ((([v0, v1, v2, v3, v4, v5, v6] : List Value).drop 1).take (Try.prog.cellsOf 3)) := hf 1 _ rfl
    rw [show Try.prog.cellsOf 3 = 1 by kernel_rfl] at f1
    replace f1 : Rd enc Try.prog w 3 [v1] := f1
    have f2 : Rd enc Try.prog w 3 ((([v0, v1, v2, v3, v4, v5, v6] : List Value).drop 2).take (Try.prog.cellsOf 3)) := hf 2 _ rfl
    rw [show Try.prog.cellsOf 3 = 1 by kernel_rfl] at f2
    replace f2 : Rd enc Try.prog w 3 [v2] := f2
    have f3 : Rd enc Try.prog w 51 ((([v0, v1, v2, v3, v4, v5, v6] : List Value).drop 3).take (Try.prog.cellsOf 51)) := hf 3 _ rfl
    rw [show Try.prog.cellsOf 51 = 1 by kernel_rfl] at f3
    replace f3 : Rd enc Try.prog w 51 [v3] := f3
    have f4 : Rd enc Try.prog w 52 ((([v0, v1, v2, v3, v4, v5, v6] : List Value).drop 4).take (Try.prog.cellsOf 52)) := hf 4 _ rfl
    rw [show Try.prog.cellsOf 52 = 1 by kernel_rfl] at f4
    replace f4 : Rd enc Try.prog w 52 [v4] := f4
    have f5 : Rd enc Try.prog w 53 ((([v0, v1, v2, v3, v4, v5, v6] : List Value).drop 5).take (Try.prog.cellsOf 53)) := hf 5 _ rfl
    rw [show Try.prog.cellsOf 53 = 1 by kernel_rfl] at f5
    replace f5 : Rd enc Try.prog w 53 [v5] := f5
    have f6 : Rd enc Try.prog w 54 ((([v0, v1, v2, v3, v4, v5, v6] : List Value).drop 6).take (Try.prog.cellsOf 54)) := hf 6 _ rfl
    rw [show Try.prog.cellsOf 54 = 1 by kernel_rfl] at f6
    replace f6 : Rd enc Try.prog w 54 [v6] := f6
    obtain ⟨x0, e0, g0⟩ := f0.int Try.underlying3
    replace g0 := bounds_i64 g0
    simp only [List.cons.injEq, and_true] at e0
    subst e0
    obtain ⟨x1, e1, g1⟩ := f1.int Try.underlying3
    replace g1 := bounds_i64 g1
    simp only [List.cons.injEq, and_true] at e1
    subst e1
    obtain ⟨x2, e2, g2⟩ := f2.int Try.underlying3
    replace g2 := bounds_i64 g2
    simp only [List.cons.injEq, and_true] at e2
    subst e2
    have hs3 : ∃ a n c, v3 = .slice a n c := by
      rcases f3.slice Try.underlying51 with h1 | ⟨a, n, c, h1, _⟩
      · simp at h1; exact ⟨_, _, _, h1⟩
      · simp at h1; exact ⟨_, _, _, h1⟩
    obtain ⟨a3, n3, c3, rfl⟩ := hs3
    obtain ⟨l3, m3, nc3, cm3, bb3, -, g3, r3⟩ := Rd.rows (α := WTen) (cells := cellsWTen) (size := 5) (good := goodWTen) (fun _ => rfl) (by decide) Try.underlying51 (by kernel_rfl) (fun cs hcs => open_wten hcs) f3
    rw [show Try.prog.bytesOf 115 = 40 by kernel_rfl] at bb3
    subst m3
    have hs4 : ∃ a n c, v4 = .slice a n c := by
      rcases f4.slice Try.underlying52 with h1 | ⟨a, n, c, h1, _⟩
      · simp at h1; exact ⟨_, _, _, h1⟩
      · simp at h1; exact ⟨_, _, _, h1⟩
    obtain ⟨a4, n4, c4, rfl⟩ := hs4
    obtain ⟨l4, m4, nc4, cm4, bb4, -, g4, r4⟩ := Rd.rows (α := WLea) (cells := cellsWLea) (size := 7) (good := goodWLea) (fun _ => rfl) (by decide) Try.underlying52 (by kernel_rfl) (fun cs hcs => open_wlea hcs) f4
    rw [show Try.prog.bytesOf 118 = 56 by kernel_rfl] at bb4
    subst m4
    have hs5 : ∃ a n c, v5 = .slice a n c := by
      rcases f5.slice Try.underlying53 with h1 | ⟨a, n, c, h1, _⟩
      · simp at h1; exact ⟨_, _, _, h1⟩
      · simp at h1; exact ⟨_, _, _, h1⟩
    obtain ⟨a5, n5, c5, rfl⟩ := hs5
    obtain ⟨l5, m5, nc5, cm5, bb5, -, g5, r5⟩ := Rd.rows (α := WSes) (cells := cellsWSes) (size := 7) (good := goodWSes) (fun _ => rfl) (by decide) Try.underlying53 (by kernel_rfl) (fun cs hcs => open_wses hcs) f5
    rw [show Try.prog.bytesOf 120 = 56 by kernel_rfl] at bb5
    subst m5
    have hs6 : ∃ a n c, v6 = .slice a n c := by
      rcases f6.slice Try.underlying54 with h1 | ⟨a, n, c, h1, _⟩
      · simp at h1; exact ⟨_, _, _, h1⟩
      · simp at h1; exact ⟨_, _, _, h1⟩
    obtain ⟨a6, n6, c6, rfl⟩ := hs6
    obtain ⟨l6, m6, nc6, cm6, bb6, -, g6, r6⟩ := Rd.rows (α := WDsk) (cells := cellsWDsk) (size := 8) (good := goodWDsk) (fun _ => rfl) (by decide) Try.underlying54 (by kernel_rfl) (fun cs hcs => open_wdsk hcs) f6
    rw [show Try.prog.bytesOf 122 = 64 by kernel_rfl] at bb6
    subst m6
    have hh : l3.length ≤ 1000000000000000 ∧ l4.length ≤ 1000000000000000 ∧ l5.length ≤ 1000000000000000 ∧ l6.length ≤ 1000000000000000 := by unfold reachBytes at bb3 bb4 bb5 bb6; omega
    exact ⟨⟨x0, x1, x2, l3, l4, l5, l6⟩, (a3, c3, a4, c4, a5, c5, a6, c6), rfl, ⟨inI_of g0, inI_of g1, inI_of g2, ⟨short_of nc3 cm3, g3⟩, ⟨short_of nc4 cm4, g4⟩, ⟨short_of nc5 cm5, g5⟩, ⟨short_of nc6 cm6, g6⟩⟩, ⟨LowRow.of r3 (Nat.le_refl _), LowRow.of r4 (Nat.le_refl _), LowRow.of r5 (Nat.le_refl _), LowRow.of r6 (Nat.le_refl _)⟩, hh⟩
end Go.Proofs.Ytlckgnemmffdkaa

/- A state too great for the law; the lengths of a state read. -/
namespace Go.Proofs.Ytlckgnemmffdkaa
open Go.ChangeShapes Go.WideShapes Go.ChangeAt Go.RowKit
set_option maxRecDepth 100000

theorem enc_lists {x : WSt} {n : Nat} (h : (encWSt x).length ≤ n) : x.tens.length ≤ n ∧ x.leas.length ≤ n ∧ x.sess.length ≤ n ∧ x.dsks.length ≤ n := by
  simp only [encWSt, List.length_append] at h
  have a0 := flat_len (f := encWTen) (fun x => by have := encWTen_size x; omega) x.tens
  have a1 := flat_len (f := encWLea) (fun x => by have := encWLea_size x; omega) x.leas
  have a2 := flat_len (f := encWSes) (fun x => by have := encWSes_size x; omega) x.sess
  have a3 := flat_len (f := encWDsk) (fun x => by have := encWDsk_size x; omega) x.dsks
  omega
theorem read_lists (l : List UInt8) (hl : l.length ≤ 1000000) : (readP zSt wStP l).1.tens.length ≤ 1000000 ∧ (readP zSt wStP l).1.leas.length ≤ 1000000 ∧ (readP zSt wStP l).1.sess.length ≤ 1000000 ∧ (readP zSt wStP l).1.dsks.length ≤ 1000000 := by
  have hz : zSt.tens.length ≤ 1000000 ∧ zSt.leas.length ≤ 1000000 ∧ zSt.sess.length ≤ 1000000 ∧ zSt.dsks.length ≤ 1000000 := by simp [zSt]
  unfold readP
  rw [if_neg (by omega)]
  cases h0 : wStP l 0 with
  | error e => exact hz
  | ok y =>
    obtain ⟨x, q⟩ := y
    obtain ⟨-, -, he, -⟩ := wSt_wrote l 0 x q (Nat.zero_le _) h0
    have h1 := congrArg List.length he
    rw [List.length_take, List.length_drop] at h1
    have h2 : (encWSt x).length ≤ 1000000 := by omega
    simp only
    split
    · exact hz
    · exact enc_lists h2
/-- Rows in new memory lie ahead of what comes later. -/
theorem MemSt.low {W w : World} {v : WSt} {p : PSt} (h : MemSt W w v p) : LowSt w.heap.size w v p := ⟨LowRow.of h.row0.row (Nat.le_refl _), LowRow.of h.row1.row (Nat.le_refl _), LowRow.of h.row2.row (Nat.le_refl _), LowRow.of h.row3.row (Nat.le_refl _)⟩
theorem flat_le {α : Type} {f : α → List UInt8} {n : Nat} (hf : ∀ x, (f x).length ≤ n) (xs : List α) : (xs.flatMap f).length ≤ xs.length * n := by
  induction xs with
  | nil => simp
  | cons x xs ih => rw [List.flatMap_cons, List.length_append, List.length_cons, Nat.succ_mul]; have := hf x; omega
theorem ok_st {x : WSt} (h : x.tens.length + x.leas.length + x.sess.length + x.dsks.length ≤ 300) : OkSt x := ⟨by
  simp only [encWSt, List.length_append, be8_length]
  have a0 := flat_le (f := encWTen) (n := 64) (fun x => by simp [encWTen, be8_length]) x.tens
  have a1 := flat_le (f := encWLea) (n := 64) (fun x => by simp [encWLea, be8_length]) x.leas
  have a2 := flat_le (f := encWSes) (n := 64) (fun x => by simp [encWSes, encWAns, be8_length]) x.sess
  have a3 := flat_le (f := encWDsk) (n := 64) (fun x => by simp [encWDsk, encWAns, be8_length]) x.dsks
  omega⟩
theorem great_state (v : WSt) (p : PSt) (w : World) (h : v.tens.length ≤ 1000000000000000 ∧ v.leas.length ≤ 1000000000000000 ∧ v.sess.length ≤ 1000000000000000 ∧ v.dsks.length ≤ 1000000000000000) :
    Calls Try.prog 28 #[valSt v p] w (fun e w' => e = .returned (.bool (decide (300 < v.tens.length + v.leas.length + v.sess.length + v.dsks.length))) ∧ Below w.heap.size w w') := by
  obtain ⟨t0, t1, t2, l0, l1, l2, l3⟩ := v
  obtain ⟨p0, p0', p1, p1', p2, p2', p3, p3'⟩ := p
  simp only at h ⊢
  have e1 : IntKind.i64.wrap ((l0.length : Int) + l1.length) = l0.length + l1.length := IntWalk.i64_in _ (by omega)
  have e2 : IntKind.i64.wrap ((l0.length : Int) + l1.length + l2.length) = l0.length + l1.length + l2.length := IntWalk.i64_in _ (by omega)
  have e3 : IntKind.i64.wrap ((l0.length : Int) + l1.length + l2.length + l3.length) = l0.length + l1.length + l2.length + l3.length := IntWalk.i64_in _ (by omega)
  have HB : Hid (Below w.heap.size w (w.alloc (.cells #[.int .i64 t0, .int .i64 t1, .int .i64 t2, .slice p0 l0.length p0', .slice p1 l1.length p1', .slice p2 l2.length p2', .slice p3 l3.length p3'] 56))) := Lib.hid (mid_alloc' (Below.refl _ _))
  have HD : Hid (∀ b, decide ((300 : Int) < (l0.length : Int) + l1.length + l2.length + l3.length) = b → decide (300 < l0.length + l1.length + l2.length + l3.length) = b) := fun b hb => by rw [← hb]; apply decide_eq_decide.2; omega
  clear h
  generalize decide (300 < l0.length + l1.length + l2.length + l3.length) = g at HD ⊢
  unfold valSt
  simp only
  go_enter Try.func28, Try.ntmps28
  go_wp2
  go_returns
  exact ⟨by rw [HD.out _ rfl]; rfl, HB.out⟩
end Go.Proofs.Ytlckgnemmffdkaa

/- What is framed is unframed, with anything behind; what is read may be written: in plain. -/
namespace Go.Proofs.Ytlckgnemmffdkaa
open Go.ChangeShapes Go.WideShapes Go.ChangeAt Go.RowKit
set_option maxRecDepth 100000

theorem take_four (a b c : List UInt8) (h : a.length = 4) : (a ++ b ++ c).take 4 = a := by
  rw [List.append_assoc, ← h]; exact List.take_left' rfl
theorem drop_four (a b c : List UInt8) (h : a.length = 4) (hb : b.length = 4) : ((a ++ b ++ c).drop 4).take 4 = b := by
  rw [List.append_assoc, ← h, List.drop_left, h, ← hb]; exact List.take_left' rfl
theorem drop_eight (a b c : List UInt8) (h : a.length = 4) (hb : b.length = 4) : (a ++ b ++ c).drop 8 = c := by
  have e : (a ++ b).length = 8 := by rw [List.length_append]; omega
  rw [← e]; exact List.drop_left
theorem unframe_frame (l m : List UInt8) (hl : l.length ≤ 8000) : unframeL (frameL l ++ m) = (l, 8 + (l.length : Int), 0) := by
  have h4 : (beN 4 l.length).length = 4 := beN_length _ _
  have h5 : (beN 4 (sumMore 0 l)).length = 4 := beN_length _ _
  have hL : (frameL l ++ m).length = 8 + l.length + m.length := by rw [List.length_append, frameL_length]
  have e1 : frameL l ++ m = beN 4 l.length ++ beN 4 (sumMore 0 l) ++ (l ++ m) := by unfold frameL; rw [List.append_assoc]
  have t4 : (frameL l ++ m).take 4 = beN 4 l.length := by rw [e1]; exact take_four _ _ _ h4
  have d4 : ((frameL l ++ m).drop 4).take 4 = beN 4 (sumMore 0 l) := by rw [e1]; exact drop_four _ _ _ h4 h5
  have d8 : (frameL l ++ m).drop 8 = l ++ m := by rw [e1]; exact drop_eight _ _ _ h4 h5
  have bv : beVal ((frameL l ++ m).take 4) = l.length := by
    rw [t4, beVal_beN]
    have : (256 : Nat) ^ 4 = 4294967296 := by decide
    rw [this]; omega
  have tk : ((frameL l ++ m).drop 8).take (beVal ((frameL l ++ m).take 4)) = l := by rw [bv, d8]; exact List.take_left' rfl
  unfold unframeL
  rw [if_neg (by omega), if_neg (by rw [bv]; omega), tk, if_neg (by rw [d4]; exact fun h => h rfl), bv]
theorem MemMsg.low {W w : World} {v : WMsg} {p : PMsg} (h : MemMsg W w v p) : LowMsg w.heap.size w v p := ⟨h.ents.imp fun _ e => ⟨e.vals, LowRow.of e.row.row (Nat.le_refl _), fun y hy => ⟨LowRow.of (e.each y hy).row.row (Nat.le_refl _)⟩⟩, LowRow.of h.row1.row (Nat.le_refl _), LowRow.of h.row2.row (Nat.le_refl _)⟩
theorem LowMsg.rows {g : Nat} {w : World} {v : WMsg} {p : PMsg} (h : LowMsg g w v p) : RowMsg w v p := ⟨h.ents.imp fun _ e => ⟨e.1, e.2.1.row, fun y hy => (e.2.2 y hy).row.row⟩, h.row1.row, h.row2.row⟩
theorem ok_msg_read {l : List UInt8} {x : WMsg} {i : Nat} (hl : l.length ≤ 8000) (h : readP zMsg wMsgP l = (x, i, 0)) : encWMsg x = l ∧ OkMsg x := by
  obtain ⟨h1, h2⟩ := written_read wMsg_wrote h
  exact ⟨h1, h2.1, fun y hy => (h2.2.2.2.2.2.2.2.2.1.2 y hy).2.1, by rw [h1]; omega⟩
theorem ok_st_read {l : List UInt8} {x : WSt} {i : Nat} (hl : l.length ≤ 8000) (h : readP zSt wStP l = (x, i, 0)) : encWSt x = l ∧ OkSt x := by
  obtain ⟨h1, -⟩ := written_read wSt_wrote h
  exact ⟨h1, ⟨by rw [h1]; omega⟩⟩
theorem ok_cmd {x : WCmd} (h : goodWCmd x) (h2 : x.leases.length ≤ 500) : OkCmd x := ⟨h.1, by unfold encWCmd; have h8 := flatMap_len8 x.leases; simp only [List.length_append, be8_length, List.length_cons, List.length_nil, h8]; omega⟩
theorem Few.ents_le {v : WMsg} (h : Few v) : v.entries.length ≤ 1000000 := by have := h.ents; omega
end Go.Proofs.Ytlckgnemmffdkaa

/- The same commands. -/
namespace Go.Proofs.Ytlckgnemmffdkaa
open Go.ChangeShapes Go.WideShapes Go.ChangeAt Go.RowKit
set_option maxRecDepth 100000

theorem int_at {w : World} {a : Option Addr} {xs : List Int} (h : Row w a (xs.flatMap cellsInt)) {k : Nat} (hk : k < xs.length) : ∃ b o, a = some ⟨b, o, none⟩ ∧ w.cell? ⟨b, o + k, none⟩ = some (.int .i64 xs[k]) := by
  have h2 : k < (xs.flatMap cellsInt).length := by rw [flatMap_len (fun _ => rfl : ∀ x, (cellsInt x).length = 1), Nat.mul_one]; exact hk
  obtain ⟨b, o, ha, hc⟩ := Row.at h h2
  refine ⟨b, o, ha, ?_⟩
  have h1 := flatMap_at (cells := cellsInt) (size := 1) (fun _ => rfl) (xs := xs) (i := k) (r := 0) (by decide)
  rw [List.getElem?_eq_getElem hk, Option.bind_some, Nat.mul_one, Nat.add_zero] at h1
  rw [hc k h2, ← List.getElem?_eq_getElem h2, h1]; rfl
set_option maxHeartbeats 8000000 in
theorem same_command (v : WCmd) (p q : PCmd) (w : World) (hp : Row w p.1 (v.leases.flatMap cellsInt)) (hq : Row w q.1 (v.leases.flatMap cellsInt)) (hl : v.leases.length ≤ 1000000) :
    Calls Try.prog 23 #[valCmd v p, valCmd v q] w (fun e w' => e = .returned (.bool true) ∧ Below w.heap.size w w') := by
  obtain ⟨v0, v1, v2, v3, v4, v5, v6, v7, v8, v9, v10, v11, l⟩ := v
  obtain ⟨p0, p1⟩ := p
  obtain ⟨q0, q1⟩ := q
  simp only at hp hq hl
  obtain ⟨W, hW⟩ : ∃ W, W = (w.alloc (.cells #[.int .i8 v0, .int .i64 v1, .int .i64 v2, .int .i64 v3, .int .i64 v4, .int .i64 v5, .int .i64 v6, .int .i64 v7, .int .i64 v8, .int .i64 v9, .int .i64 v10, .bool v11, .slice p0 l.length p1] 40)).alloc (.cells #[.int .i8 v0, .int .i64 v1, .int .i64 v2, .int .i64 v3, .int .i64 v4, .int .i64 v5, .int .i64 v6, .int .i64 v7, .int .i64 v8, .int .i64 v9, .int .i64 v10, .bool v11, .slice q0 l.length q1] 40) := ⟨_, rfl⟩
  have hB : Below w.heap.size w W := by rw [hW]; exact mid_alloc' (mid_alloc' (Below.refl _ _))
  have HX : Hid (Box W w.heap.size [.int .i8 v0, .int .i64 v1, .int .i64 v2, .int .i64 v3, .int .i64 v4, .int .i64 v5, .int .i64 v6, .int .i64 v7, .int .i64 v8, .int .i64 v9, .int .i64 v10, .bool v11, .slice p0 l.length p1]) := Lib.hid (by rw [hW]; exact Box.of_alloc (mid_alloc' (Below.refl _ _)))
  have HY : Hid (Box W (w.heap.size + 1) [.int .i8 v0, .int .i64 v1, .int .i64 v2, .int .i64 v3, .int .i64 v4, .int .i64 v5, .int .i64 v6, .int .i64 v7, .int .i64 v8, .int .i64 v9, .int .i64 v10, .bool v11, .slice q0 l.length q1]) := Lib.hid (by rw [hW]; exact Box.of_alloc1 (Below.refl _ _))
  have HP := Lib.hid (hp.below hB)
  have HQ := Lib.hid (hq.below hB)
  have HB := Lib.hid hB
  clear hp hq hB
  unfold valCmd
  simp only
  go_enter Try.func23, Try.ntmps23
  go_wp2
  rw [← hW]
  have HW := Lib.hid hW
  clear hW
  go_loopw [5] (fun i wr => ∃ k : Nat, k ≤ l.length ∧ i = .int .i64 k ∧ Hid (∃ n, wr = W.drewN n)) (fun i _ => l.length - (intOf i).toNat)
  case atStart => exact ⟨0, by omega, rfl, ⟨0, rfl⟩⟩
  case round =>
    obtain ⟨k, hk, rfl, hwr⟩ := hrel
    obtain ⟨n, rfl⟩ := hwr.out
    clear hwr
    have y12 := HX.out.cell (j := 12) rfl
    have z12 := HY.out.cell (j := 12) rfl
    by_cases hlt : k < l.length
    · obtain ⟨b, o, hp0, hc⟩ := int_at HP.out hlt
      obtain ⟨b2, o2, hq0, hc2⟩ := int_at HQ.out hlt
      subst hp0 hq0
      generalize l[k]'hlt = x at hc hc2
      have hd : decide (k < l.length) = true := decide_eq_true hlt
      go_upto_region 6 with (fail)
      go_quiet (fail)
      go_wp2
      exact ⟨⟨k + 1, by omega, by go_num, by (show ∃ m, _ = _); exact ⟨n + nq, by simp⟩⟩, by simp [intOf]; omega⟩
    · obtain rfl : k = l.length := by omega
      have hd : decide (l.length < l.length) = false := decide_eq_false (by omega)
      have y0 := HX.out.cell (j := 0) rfl
      have z0 := HY.out.cell (j := 0) rfl
      have y1 := HX.out.cell (j := 1) rfl
      have z1 := HY.out.cell (j := 1) rfl
      have y2 := HX.out.cell (j := 2) rfl
      have z2 := HY.out.cell (j := 2) rfl
      have y3 := HX.out.cell (j := 3) rfl
      have z3 := HY.out.cell (j := 3) rfl
      have y4 := HX.out.cell (j := 4) rfl
      have z4 := HY.out.cell (j := 4) rfl
      have y5 := HX.out.cell (j := 5) rfl
      have z5 := HY.out.cell (j := 5) rfl
      have y6 := HX.out.cell (j := 6) rfl
      have z6 := HY.out.cell (j := 6) rfl
      have y7 := HX.out.cell (j := 7) rfl
      have z7 := HY.out.cell (j := 7) rfl
      have y8 := HX.out.cell (j := 8) rfl
      have z8 := HY.out.cell (j := 8) rfl
      have y9 := HX.out.cell (j := 9) rfl
      have z9 := HY.out.cell (j := 9) rfl
      have y10 := HX.out.cell (j := 10) rfl
      have z10 := HY.out.cell (j := 10) rfl
      have y11 := HX.out.cell (j := 11) rfl
      have z11 := HY.out.cell (j := 11) rfl
      go_wp2
      go_ret
      exact ⟨rfl, below_drewN HB.out n⟩
end Go.Proofs.Ytlckgnemmffdkaa

/- What begins any bytes: the document's Unframe. -/
namespace Go.Proofs.Ytlckgnemmffdkaa
open Go.ChangeShapes Go.WideShapes Go.ChangeAt Go.RowKit
set_option maxRecDepth 100000

theorem i64_or_nat (a b : Nat) (ha : a < 9223372036854775808) (hb : b < 9223372036854775808) : bits .or .i64 (a : Int) (b : Int) = ((a ||| b : Nat) : Int) := by
  have hx : a ||| b < 2 ^ 63 := Nat.or_lt_two_pow (by omega) (by omega)
  show IntKind.i64.wrap ((BitVec.ofInt 64 (a : Int) ||| BitVec.ofInt 64 (b : Int)).toNat : Int) = _
  rw [BitVec.toNat_or, ofInt_u64 a (by omega), ofInt_u64 b (by omega)]
  exact IntWalk.i64_in _ ⟨by omega, by omega⟩
theorem or_sum (p i a b : Nat) (hp : p = 2 ^ i) (h : b < p) : a * p ||| b = a * p + b := by
  subst hp
  have := Nat.shiftLeft_add_eq_or_of_lt h a
  rw [Nat.shiftLeft_eq] at this
  exact this.symm
theorem wrap_small (n : Int) (h : 0 ≤ n) (h2 : n < 4611686018427387904) : wrap64 n = n := by unfold wrap64; omega
theorem or_four_nat (a b c d : Nat) (h0 : a < 256) (h1 : b < 256) (h2 : c < 256) (h3 : d < 256) :
    bits .or .i64 (bits .or .i64 (bits .or .i64 ((a * 16777216 : Nat) : Int) ((b * 65536 : Nat) : Int)) ((c * 256 : Nat) : Int)) ((d : Nat) : Int) = ((((a * 256 + b) * 256 + c) * 256 + d : Nat) : Int) := by
  have e1 : a * 16777216 + b * 65536 = (a * 256 + b) * 65536 := by rw [Nat.add_mul, Nat.mul_assoc]
  have e2 : (a * 256 + b) * 65536 + c * 256 = ((a * 256 + b) * 256 + c) * 256 := by rw [Nat.add_mul ((a * 256 + b) * 256), Nat.mul_assoc]
  have l1 : b * 65536 < 16777216 := by omega
  have l2 : c * 256 < 65536 := by omega
  have l3 : a * 16777216 < 9223372036854775808 := Nat.lt_of_lt_of_le (Nat.mul_lt_mul_of_pos_right h0 (by decide)) (by decide)
  have m4 : a * 256 + b < 65536 := by clear e1 e2; omega
  have m5 : (a * 256 + b) * 256 + c < 16777216 := by clear e1 e2; omega
  have l4 : (a * 256 + b) * 65536 < 9223372036854775808 := Nat.lt_of_lt_of_le (Nat.mul_lt_mul_of_pos_right m4 (by decide)) (by decide)
  have l5 : ((a * 256 + b) * 256 + c) * 256 < 9223372036854775808 := Nat.lt_of_lt_of_le (Nat.mul_lt_mul_of_pos_right m5 (by decide)) (by decide)
  have o1 := or_sum 16777216 24 a (b * 65536) rfl l1
  have o2 := or_sum 65536 16 (a * 256 + b) (c * 256) rfl l2
  have o3 := or_sum 256 8 ((a * 256 + b) * 256 + c) d rfl h3
  rw [i64_or_nat _ _ l3 (Nat.lt_trans l1 (by decide)), o1, e1, i64_or_nat _ _ l4 (Nat.lt_trans l2 (by decide)), o2, e2, i64_or_nat _ _ l5 (Nat.lt_trans h3 (by decide)), o3]
theorem or_four (x0 x1 x2 x3 : UInt8) : bits .or .i64 (bits .or .i64 (bits .or .i64 (wrap64 (wrap64 (x0.toNat : Int) * 16777216)) (wrap64 (wrap64 (x1.toNat : Int) * 65536))) (wrap64 (wrap64 (x2.toNat : Int) * 256))) (wrap64 (x3.toNat : Int)) = ((beVal [x0, x1, x2, x3] : Nat) : Int) := by
  have h0 := x0.toNat_lt
  have h1 := x1.toNat_lt
  have h2 := x2.toNat_lt
  have h3 := x3.toNat_lt
  have w0 : wrap64 (wrap64 (x0.toNat : Int) * 16777216) = ((x0.toNat * 16777216 : Nat) : Int) := by rw [wrap_small (x0.toNat : Int) (by omega) (by omega), wrap_small _ (by omega) (by omega)]; exact (Int.natCast_mul _ _).symm
  have w1 : wrap64 (wrap64 (x1.toNat : Int) * 65536) = ((x1.toNat * 65536 : Nat) : Int) := by rw [wrap_small (x1.toNat : Int) (by omega) (by omega), wrap_small _ (by omega) (by omega)]; exact (Int.natCast_mul _ _).symm
  have w2 : wrap64 (wrap64 (x2.toNat : Int) * 256) = ((x2.toNat * 256 : Nat) : Int) := by rw [wrap_small (x2.toNat : Int) (by omega) (by omega), wrap_small _ (by omega) (by omega)]; exact (Int.natCast_mul _ _).symm
  have w3 : wrap64 (x3.toNat : Int) = ((x3.toNat : Nat) : Int) := wrap_small _ (by omega) (by omega)
  rw [w0, w1, w2, w3]
  clear w0 w1 w2 w3
  have hb : beVal [x0, x1, x2, x3] = ((x0.toNat * 256 + x1.toNat) * 256 + x2.toNat) * 256 + x3.toNat := by
    simp only [beVal, List.foldl_cons, List.foldl_nil, Nat.zero_mul, Nat.zero_add]
  rw [hb]
  clear hb
  generalize x0.toNat = a at *
  generalize x1.toNat = b at *
  generalize x2.toNat = c at *
  generalize x3.toNat = d at *
  exact or_four_nat a b c d h0 h1 h2 h3
theorem refunframe_short (a : Option Addr) (l : List UInt8) (n c : Nat) (w : World) (hn : l.length = n) (hl : n < 8) :
    Calls Try.prog 13 #[.slice a n c] w (RetUn w ([], 0, 50)) := by
  have d1 : decide ((n : Int) < 8) = true := decide_eq_true (by omega)
  go_enter Try.func13, Try.ntmps13
  go_wp2
  exact bodyPost_ret (v := .tuple #[.slice none 0 0, .int .i64 0, .int .i64 50]) (by simp [results, Try.results13, go_sem]) rfl ⟨none, 0, rfl, .inl rfl, Below.refl _ _⟩
set_option maxHeartbeats 2000000 in
theorem refunframe_more (b o : Nat) (l : List UInt8) (n c : Nat) (w : World) (hn : l.length = n) (hnc : n ≤ c) (hl : 8 ≤ n) (hl2 : n ≤ 200000) (hr : RowB w (some ⟨b, o, none⟩) l) (hc : ∀ k (h : k < l.length), w.cell? ⟨b, o + k, none⟩ = some (B l[k])) :
    Calls Try.prog 13 #[.slice (some ⟨b, o, none⟩) n c] w (RetUn w (unframeL l)) := by
  subst hn
  have d1 : decide ((l.length : Int) < 8) = false := decide_eq_false (by omega)
  have h0 := hc 0 (by omega)
  have h1 := hc 1 (by omega)
  have h2 := hc 2 (by omega)
  have h3 := hc 3 (by omega)
  have l0 : (0 : Int) < (l.length : Int) := by omega
  have l1 : (1 : Int) < (l.length : Int) := by omega
  have l2 : (2 : Int) < (l.length : Int) := by omega
  have l3 : (3 : Int) < (l.length : Int) := by omega
  have HC := Lib.hid hc
  clear hc
  rw [Nat.add_zero] at h0
  have ht4 : l.take 4 = [l[0], l[1], l[2], l[3]] := by
    rw [List.take_succ_eq_append_getElem (by omega), List.take_succ_eq_append_getElem (by omega), List.take_succ_eq_append_getElem (by omega), List.take_succ_eq_append_getElem (by omega), List.take_zero]; rfl
  have hN : beVal (l.take 4) < 4294967296 := by
    have := beVal_lt (l.take 4)
    rw [List.length_take, Nat.min_eq_left (by omega)] at this
    exact this
  have HU : Hid (unframeL l = (if 65536 < beVal (l.take 4) ∨ l.length - 8 < beVal (l.take 4) then ([], 0, 50)
      else if beN 4 (sumMore 0 ((l.drop 8).take (beVal (l.take 4)))) ≠ (l.drop 4).take 4 then ([], 0, 50)
      else ((l.drop 8).take (beVal (l.take 4)), 8 + (beVal (l.take 4) : Int), 0) : List UInt8 × Int × Int)) := by
    show unframeL l = _
    unfold unframeL; rw [if_neg (by omega)]
  have HB4 : Hid (beN 4 (beVal (l.take 4)) = l.take 4) := by
    have := beN_beVal (l.take 4)
    rw [List.length_take, Nat.min_eq_left (by omega)] at this
    exact this
  have HOR := Lib.hid (or_four l[0] l[1] l[2] l[3])
  rw [← ht4] at HOR
  clear ht4
  generalize l[0] = x0 at h0 HOR
  generalize l[1] = x1 at h1 HOR
  generalize l[2] = x2 at h2 HOR
  generalize l[3] = x3 at h3 HOR
  go_enter Try.func13, Try.ntmps13
  go_upto_region 3 with (fail)
  go_quiet (fail)
  rw [HOR.out]
  clear HOR h0 h1 h2 h3
  generalize hNN : beVal (l.take 4) = N at hN HU HB4 ⊢
  have HB1 : Hid (Below w.heap.size w (w.drewN nq)) := below_drewN (Below.refl _ _) nq
  generalize w.drewN nq = w1 at HB1 ⊢
  by_cases g1 : 65536 < N
  · have d2 : decide ((65536 : Int) < (N : Int)) = true := decide_eq_true (by omega)
    have HO : Hid (unframeL l = ([], 0, 50)) := by show _ = _; rw [HU.out, if_pos (.inl g1)]
    go_wp2
    exact bodyPost_ret (v := .tuple #[.slice none 0 0, .int .i64 0, .int .i64 50]) (by simp [results, Try.results13, go_sem]) rfl (by rw [HO.out]; exact ⟨none, 0, rfl, .inl rfl, HB1.out⟩)
  have d2 : decide ((65536 : Int) < (N : Int)) = false := decide_eq_false (by omega)
  by_cases g2 : l.length - 8 < N
  · have d3 : decide ((l.length : Int) - 8 < (N : Int)) = true := decide_eq_true (by omega)
    have HO : Hid (unframeL l = ([], 0, 50)) := by show _ = _; rw [HU.out, if_pos (.inr g2)]
    go_wp2
    exact bodyPost_ret (v := .tuple #[.slice none 0 0, .int .i64 0, .int .i64 50]) (by simp [results, Try.results13, go_sem]) rfl (by rw [HO.out]; exact ⟨none, 0, rfl, .inl rfl, HB1.out⟩)
  have d3 : decide ((l.length : Int) - 8 < (N : Int)) = false := decide_eq_false (by omega)
  have hD0 : ((l.drop 8).take N).length = N := by rw [List.length_take, List.length_drop]; omega
  have hrD : RowB w (some ⟨b, o + 8, none⟩) ((l.drop 8).take N) := by
    have := (Row.drop hr 8).take N
    rw [← List.map_drop, ← List.map_take] at this; exact this
  have hH0 : ((l.drop 4).take 4).length = 4 := by rw [List.length_take, List.length_drop]; omega
  have hlx : l.take 8 = l.take 4 ++ (l.drop 4).take 4 := by
    have := List.take_add (l := l) (i := 4) (j := 4)
    simpa using this
  rw [if_neg (by omega)] at HU
  have HLG : ∀ k, k < 8 → l[k]? = (beN 4 N ++ (l.drop 4).take 4)[k]? := fun k hk => by
    rw [HB4.out, ← hlx, List.getElem?_take, if_pos hk]
  have HE8 : N = 0 → (l.drop 8).take N = [] := fun h => by rw [h, List.take_zero]
  generalize (l.drop 8).take N = D at HU hD0 hrD HE8
  generalize (l.drop 4).take 4 = H at HU hH0 HLG
  have hNB := beN_length 4 N
  have hMB := beN_length 4 (sumMore 0 D)
  have HFL : ∀ k, k < 8 → (frameL D)[k]? = (beN 4 N ++ beN 4 (sumMore 0 D))[k]? := fun k hk => by
    have e : frameL D = (beN 4 N ++ beN 4 (sumMore 0 D)) ++ D := by unfold frameL; rw [hD0]
    rw [e, List.getElem?_append_left (by rw [List.length_append]; omega)]
  have HBAD : Hid (∀ k, k < 8 → (frameL D)[k]? ≠ l[k]? → unframeL l = ([], 0, 50)) := fun k hk hne => by
    rw [HU.out, if_pos]
    intro e
    apply hne
    rw [HFL k hk, HLG k hk, e]
  have HGOOD : Hid ((∀ j, j < 8 → (frameL D)[j]? = l[j]?) → unframeL l = (D, 8 + (N : Int), 0)) := fun h => by
    rw [HU.out, if_neg]
    rw [Decidable.not_not]
    refine List.ext_getElem? fun j => ?_
    by_cases hj : j < 4
    · have h1 := h (4 + j) (by omega)
      rw [HFL _ (by omega), HLG _ (by omega), List.getElem?_append_right (by omega), List.getElem?_append_right (by omega), hNB, Nat.add_sub_cancel_left] at h1
      exact h1
    · rw [List.getElem?_eq_none (by omega), List.getElem?_eq_none (by omega)]
  have HDL : Hid (D.length = N) := hD0
  clear HFL HLG hNB hMB hH0 hlx hD0 HU HB4 hNN
  by_cases g3 : c = 8
  · obtain rfl : N = 0 := by omega
    have hD1 : D = [] := HE8 rfl
    subst hD1
    subst g3
    clear HE8
    have HRD : Hid (RowB w (some ⟨b, o, none⟩) []) := .inl rfl
    go_wp2_with (go_at_call 11; ((with_reducible refine (refframe_any (some ⟨b, o, none⟩) [] 0 0 w1 HDL.out (by omega) (HRD.out.below HB1.out)).mono ?_); rintro e w2 ⟨a2, c2, rfl, hr2, hb2⟩; have HR2 := Lib.hid hr2; have HB2 := Lib.hid (HB1.out.trans (hb2.mono HB1.out.size)); clear hr2 hb2))
    have hfl := frameL_length []
    rw [HDL.out] at hfl
    have HFLN := Lib.hid hfl
    go_loopw [8] (fun i wr => ∃ k : Nat, k ≤ 8 ∧ i = .int .i64 k ∧ Hid (∀ j, j < k → (frameL [])[j]? = l[j]?) ∧ Hid (Below w2.heap.size w2 wr)) (fun i _ => 8 - (intOf i).toNat)
    case atStart => exact ⟨0, by omega, rfl, fun j hj => absurd hj (by omega), Below.refl _ _⟩
    case round =>
      obtain ⟨k, hk, rfl, hj, hbr⟩ := hrel
      have HBR := Lib.hid (HB2.out.trans (hbr.out.mono HB2.out.size))
      by_cases hlt : k < 8
      · obtain ⟨b2, o2, rfl, hc2⟩ := Row.getBelow HR2.out (k := k) (x := B ((frameL [])[k]'(by omega))) (by rw [List.getElem?_map, List.getElem?_eq_getElem (by omega)]; rfl)
        obtain ⟨b3, o3, hb3, hc3⟩ := Row.getBelow hr (k := k) (x := B (l[k]'(by omega))) (by rw [List.getElem?_map, List.getElem?_eq_getElem (by omega)]; rfl)
        simp only [Option.some.injEq, Addr.mk.injEq, and_true] at hb3
        obtain ⟨rfl, rfl⟩ := hb3
        have c2' := hc2 wr hbr.out
        have c3' := hc3 wr HBR.out
        have HE : Hid ((frameL [])[k]? = some ((frameL [])[k]'(by omega)) ∧ l[k]? = some (l[k]'(by omega))) := ⟨List.getElem?_eq_getElem _, List.getElem?_eq_getElem _⟩
        clear hc2 hc3
        generalize (frameL [])[k]'(by omega) = y at c2' HE
        generalize l[k]'(by omega) = x at c3' HE
        have hk8 : (k : Int) < 8 := by omega
        have hkl : (k : Int) < (l.length : Int) := by omega
        have hkf : (k : Int) < ((frameL []).length : Int) := by omega
        by_cases hxy : y = x
        · subst hxy
          have HN1 : Hid (∀ j, j < k + 1 → (frameL [])[j]? = l[j]?) := fun j hj2 => by
            rcases Nat.lt_succ_iff_lt_or_eq.1 hj2 with h | rfl
            · exact hj.out j h
            · rw [HE.out.1, HE.out.2]
          go_upto_region 10 with (fail)
          go_quiet (fail)
          go_wp2_with fail
          go_roundw
          case rel => exact ⟨k + 1, by omega, by go_num, HN1.out, below_drewN hbr.out _⟩
          case measure => simp [intOf]; omega
        · have hne : ¬ ((y.toNat : Int) = (x.toNat : Int)) := fun h => hxy (UInt8.toNat_inj.1 (by omega))
          have hne2 : ((y.toNat : Int) != (x.toNat : Int)) = true := by simpa using hne
          have hne3 : ((y.toNat : Int) == (x.toNat : Int)) = false := by simpa using hne
          have HO : Hid (unframeL l = ([], 0, 50)) := HBAD.out k hlt (by rw [HE.out.1, HE.out.2]; simpa using hxy)
          clear hxy
          go_upto_region 10 with (fail)
          go_quiet (fail)
          go_wp2_with fail
          exact bodyPost_ret (v := .tuple #[.slice none 0 0, .int .i64 0, .int .i64 50]) (by simp [results, Try.results13, go_sem]) rfl (by rw [HO.out]; exact ⟨none, 0, rfl, .inl rfl, below_drewN HBR.out _⟩)
      · obtain rfl : k = 8 := by omega
        clear hfl
        have HO := Lib.hid (HGOOD.out hj.out)
        go_wp2_with (at_builtin; (refine wpList_can el_bytes rfl (.tmp 65) (.tmp 69) rfl wr.heap.size none 0 0 [] rfl (Can.nil _ _ _ _) (some ⟨b, o, none⟩) 0 0 (([] : List UInt8).map B) rfl (by rw [List.length_map, HDL.out, Nat.mul_one]) (HRD.out.below HBR.out) (bytes_one _) (by omega) (Nat.le_refl _) ?_); intro a6 c6 w6 hcan6 _ hb6 _; have HCAN6 := Lib.hid hcan6; have HB6 := Lib.hid (HBR.out.trans (hb6.mono HBR.out.size)); clear hcan6 hb6)
        exact bodyPost_ret (v := .tuple #[.slice none 0 0, .int .i64 8, .int .i64 0]) (by simp [results, Try.results13, go_sem]) rfl (by rw [HO.out]; exact ⟨none, 0, rfl, .inl rfl, HB6.out⟩)
  · clear HE8
    have HRD : Hid (RowB w (some ⟨b, o + 8, none⟩) D) := hrD
    go_wp2_with (go_at_call 11; ((with_reducible refine (refframe_any (some ⟨b, o + 8, none⟩) D N (c - 8) w1 HDL.out (by omega) (HRD.out.below HB1.out)).mono ?_); rintro e w2 ⟨a2, c2, rfl, hr2, hb2⟩; have HR2 := Lib.hid hr2; have HB2 := Lib.hid (HB1.out.trans (hb2.mono HB1.out.size)); clear hr2 hb2))
    have hfl := frameL_length D
    rw [HDL.out] at hfl
    have HFLN := Lib.hid hfl
    go_loopw [8] (fun i wr => ∃ k : Nat, k ≤ 8 ∧ i = .int .i64 k ∧ Hid (∀ j, j < k → (frameL D)[j]? = l[j]?) ∧ Hid (Below w2.heap.size w2 wr)) (fun i _ => 8 - (intOf i).toNat)
    case atStart => exact ⟨0, by omega, rfl, fun j hj => absurd hj (by omega), Below.refl _ _⟩
    case round =>
      obtain ⟨k, hk, rfl, hj, hbr⟩ := hrel
      have HBR := Lib.hid (HB2.out.trans (hbr.out.mono HB2.out.size))
      by_cases hlt : k < 8
      · obtain ⟨b2, o2, rfl, hc2⟩ := Row.getBelow HR2.out (k := k) (x := B ((frameL D)[k]'(by omega))) (by rw [List.getElem?_map, List.getElem?_eq_getElem (by omega)]; rfl)
        obtain ⟨b3, o3, hb3, hc3⟩ := Row.getBelow hr (k := k) (x := B (l[k]'(by omega))) (by rw [List.getElem?_map, List.getElem?_eq_getElem (by omega)]; rfl)
        simp only [Option.some.injEq, Addr.mk.injEq, and_true] at hb3
        obtain ⟨rfl, rfl⟩ := hb3
        have c2' := hc2 wr hbr.out
        have c3' := hc3 wr HBR.out
        have HE : Hid ((frameL D)[k]? = some ((frameL D)[k]'(by omega)) ∧ l[k]? = some (l[k]'(by omega))) := ⟨List.getElem?_eq_getElem _, List.getElem?_eq_getElem _⟩
        clear hc2 hc3
        generalize (frameL D)[k]'(by omega) = y at c2' HE
        generalize l[k]'(by omega) = x at c3' HE
        have hk8 : (k : Int) < 8 := by omega
        have hkl : (k : Int) < (l.length : Int) := by omega
        have hkf : (k : Int) < ((frameL D).length : Int) := by omega
        by_cases hxy : y = x
        · subst hxy
          have HN1 : Hid (∀ j, j < k + 1 → (frameL D)[j]? = l[j]?) := fun j hj2 => by
            rcases Nat.lt_succ_iff_lt_or_eq.1 hj2 with h | rfl
            · exact hj.out j h
            · rw [HE.out.1, HE.out.2]
          go_upto_region 10 with (fail)
          go_quiet (fail)
          go_wp2_with fail
          go_roundw
          case rel => exact ⟨k + 1, by omega, by go_num, HN1.out, below_drewN hbr.out _⟩
          case measure => simp [intOf]; omega
        · have hne : ¬ ((y.toNat : Int) = (x.toNat : Int)) := fun h => hxy (UInt8.toNat_inj.1 (by omega))
          have hne2 : ((y.toNat : Int) != (x.toNat : Int)) = true := by simpa using hne
          have hne3 : ((y.toNat : Int) == (x.toNat : Int)) = false := by simpa using hne
          have HO : Hid (unframeL l = ([], 0, 50)) := HBAD.out k hlt (by rw [HE.out.1, HE.out.2]; simpa using hxy)
          clear hxy
          go_upto_region 10 with (fail)
          go_quiet (fail)
          go_wp2_with fail
          exact bodyPost_ret (v := .tuple #[.slice none 0 0, .int .i64 0, .int .i64 50]) (by simp [results, Try.results13, go_sem]) rfl (by rw [HO.out]; exact ⟨none, 0, rfl, .inl rfl, below_drewN HBR.out _⟩)
      · obtain rfl : k = 8 := by omega
        clear hfl
        have HO := Lib.hid (HGOOD.out hj.out)
        go_wp2_with (at_builtin; (refine wpList_can el_bytes rfl (.tmp 65) (.tmp 69) rfl wr.heap.size none 0 0 [] rfl (Can.nil _ _ _ _) (some ⟨b, o + 8, none⟩) (8 + N - 8) (c - 8) ((D : List UInt8).map B) rfl (by rw [List.length_map, HDL.out, Nat.mul_one]; omega) (HRD.out.below HBR.out) (bytes_one _) (by omega) (Nat.le_refl _) ?_); intro a6 c6 w6 hcan6 _ hb6 _; have HCAN6 := Lib.hid hcan6; have HB6 := Lib.hid (HBR.out.trans (hb6.mono HBR.out.size)); clear hcan6 hb6)
        refine bodyPost_ret (v := .tuple #[.slice a6 (0 + (8 + N - 8)) c6, .int .i64 (8 + (N : Int)), .int .i64 0]) (by simp [results, Try.results13, go_sem]) rfl ?_
        rw [HO.out]
        refine ⟨a6, c6, ?_, ?_, HB6.out⟩
        · show Ending.returned (.tuple #[.slice a6 (0 + (8 + N - 8)) c6, .int .i64 (8 + (N : Int)), .int .i64 0]) = Ending.returned (.tuple #[.slice a6 (D : List UInt8).length c6, .int .i64 (8 + (N : Int)), .int .i64 0])
          rw [HDL.out, Nat.zero_add, Nat.add_sub_cancel_left]
        · have h6 := HCAN6.out.row
          exact h6
end Go.Proofs.Ytlckgnemmffdkaa

/- The law of frames. -/
namespace Go.Proofs.Ytlckgnemmffdkaa
open Go.ChangeShapes Go.WideShapes Go.ChangeAt Go.RowKit
set_option maxRecDepth 100000

theorem unframe_all (a : Option Addr) (l : List UInt8) (n c : Nat) (w : World) (hn : l.length = n) (hc : n ≤ c) (hl : n ≤ 200000) (hr : RowB w a l) : Calls Try.prog 12 #[.slice a n c] w (RetUn w (unframeL l)) := by
  by_cases h8 : n < 8
  · have e : unframeL l = ([], 0, 50) := by unfold unframeL; rw [if_pos (by omega)]
    rw [e]; exact unframe_short a l n c w hn h8
  · obtain ⟨b, o, rfl, h⟩ := RowB.at hr (k := 0) (by omega)
    exact unframe_more b o l n c w hn hc (by omega) hl hr h
theorem refunframe_all (a : Option Addr) (l : List UInt8) (n c : Nat) (w : World) (hn : l.length = n) (hc : n ≤ c) (hl : n ≤ 200000) (hr : RowB w a l) : Calls Try.prog 13 #[.slice a n c] w (RetUn w (unframeL l)) := by
  by_cases h8 : n < 8
  · have e : unframeL l = ([], 0, 50) := by unfold unframeL; rw [if_pos (by omega)]
    rw [e]; exact refunframe_short a l n c w hn h8
  · obtain ⟨b, o, rfl, h⟩ := RowB.at hr (k := 0) (by omega)
    exact refunframe_more b o l n c w hn hc (by omega) hl hr h
theorem frame_all (a : Option Addr) (l : List UInt8) (n c : Nat) (w : World) (hn : l.length = n) (hl : n ≤ 200000) (hr : RowB w a l) : ∃ F k, Calls Try.prog 10 #[.slice a n c] w (RetBE w F k) ∧ ∀ w', Below w.heap.size w w' → Calls Try.prog 11 #[.slice a n c] w' (RetBE w' F k) := by
  by_cases h : n ≤ 65536
  · exact ⟨_, _, frame_any a l n c w hn h hr, fun w' hb => refframe_any a l n c w' hn h (hr.below hb)⟩
  · exact ⟨_, _, frame_long a l n c w hn (by omega) (by omega), fun w' hb => refframe_long a l n c w' hn (by omega) (by omega)⟩
set_option maxHeartbeats 4000000 in
theorem law_frame (a : Option Addr) (l : List UInt8) (n c : Nat) (w : World) (hn : l.length = n) (hc : n ≤ c) (hr : RowB w a l) :
    Calls Try.prog 3 #[.slice a n c] w fun e w' => e = .returned (.bool true) ∧ Below w.heap.size w w' := by
  by_cases hg : (4000 < n ∧ n ≤ 65536) ∨ 131072 < n
  · have HN := Lib.hid hn
    clear hn hr
    by_cases h1 : 4000 < n
    · by_cases h2 : n ≤ 65536
      · have d1 : decide ((4000 : Int) < n) = true := decide_eq_true (by omega)
        have d2 : decide ((n : Int) ≤ 65536) = true := decide_eq_true (by omega)
        go_enter Try.func3, Try.ntmps3
        go_wp2_with (go_at_call 9; ((with_reducible refine (wakes_any _).mono ?_); rintro e w' ⟨rfl, hb⟩))
        go_returns
        exact ⟨rfl, hb⟩
      · have d1 : decide ((4000 : Int) < n) = true := decide_eq_true (by omega)
        have d2 : decide ((n : Int) ≤ 65536) = false := decide_eq_false (by omega)
        have d3 : decide ((131072 : Int) < n) = true := decide_eq_true (by omega)
        go_enter Try.func3, Try.ntmps3
        go_wp2_with (go_at_call 9; ((with_reducible refine (wakes_any _).mono ?_); rintro e w' ⟨rfl, hb⟩))
        go_returns
        exact ⟨rfl, hb⟩
    · omega
  · have hl2 : n ≤ 131072 := by omega
    obtain ⟨F, k, hF, hG⟩ := frame_all a l n c w hn (by omega) hr
    have HU := Lib.hid (fun w' (h : RowB w' a l) => unframe_all a l n c w' hn hc (by omega) h)
    have HV := Lib.hid (fun w' (h : RowB w' a l) => refunframe_all a l n c w' hn hc (by omega) h)
    obtain ⟨U, i, j, hUE⟩ : ∃ U i j, unframeL l = (U, i, j) := ⟨_, _, _, rfl⟩
    rw [hUE] at HU HV
    have HF := Lib.hid hF
    have HG := Lib.hid hG
    have HR := Lib.hid hr
    clear hF hG hr hUE hn
    have hd : (decide ((4000 : Int) < n) = true ∧ decide ((n : Int) ≤ 65536) = false) ∨ decide ((4000 : Int) < n) = false := by
      by_cases h1 : (4000 : Int) < n
      · exact .inl ⟨decide_eq_true h1, decide_eq_false (by omega)⟩
      · exact .inr (decide_eq_false h1)
    have d3 : decide ((131072 : Int) < n) = false := decide_eq_false (by omega)
    clear hg
    rcases hd with ⟨d1, d2⟩ | d1
    all_goals
      go_enter Try.func3, Try.ntmps3
      go_wp2_with (first
        | (go_at_call 9; ((with_reducible refine (wakes_any _).mono ?_); rintro e w5 ⟨rfl, hb5⟩; have HB5 := Lib.hid (HB4.out.trans (hb5.mono HB4.out.size)); clear hb5))
        | (go_at_call 13; ((with_reducible refine (HV.out _ (HR.out.below HB3.out)).mono ?_); rintro e w4 ⟨a4, c4, rfl, hr4, hb4⟩; have HB4 := Lib.hid (HB3.out.trans (hb4.mono HB3.out.size)); have h4 := conv_bytes (c := c4) hr4 rfl; have h3 := conv_bytes (c := c3) (HR3.out.below hb4) rfl; have h2 := conv_bytes (c := c2) ((HR2.out.below HB23.out).below hb4) rfl; have h1 := conv_bytes (c := c1) (((HR1.out.below HB12.out).below HB23.out).below hb4) rfl; clear hr4 hb4))
        | (go_at_call 12; ((with_reducible refine (HU.out _ (HR.out.below HB2.out)).mono ?_); rintro e w3 ⟨a3, c3, rfl, hr3, hb3⟩; have HR3 := Lib.hid hr3; have HB3 := Lib.hid (HB2.out.trans (hb3.mono HB2.out.size)); have HB23 := Lib.hid hb3; clear hr3 hb3))
        | (go_at_call 11; ((with_reducible refine (HG.out _ HB1.out).mono ?_); rintro e w2 ⟨a2, c2, rfl, hr2, hb2⟩; have HR2 := Lib.hid hr2; have HB2 := Lib.hid (HB1.out.trans (hb2.mono HB1.out.size)); have HB12 := Lib.hid hb2; clear hr2 hb2))
        | (go_at_call 10; ((with_reducible refine HF.out.mono ?_); rintro e w1 ⟨a1, c1, rfl, hr1, hb1⟩; have HR1 := Lib.hid hr1; have HB1 := Lib.hid hb1; clear hr1 hb1)))
      go_returns
      exact ⟨rfl, HB5.out⟩
end Go.Proofs.Ytlckgnemmffdkaa
