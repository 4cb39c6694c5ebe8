/- An argument opened: weir/api.Entry. (printed by gen_wopen.py) -/
import Derived.Test.YtlckgnemmffdkaaOpen
import Derived.Test.YtlckgnemmffdkaaWirEnt
namespace Go.Proofs.Ytlckgnemmffdkaa
open Go.ChangeShapes Go.WideShapes Go.ChangeAt Go.RowKit
set_option maxRecDepth 100000

theorem open_went {H : Type} {enc : TypeId × Value → H} {w : World} {cs : List Value} (h : Rd enc Try.prog w 32 cs) : ∃ (v : WEnt) (p : PEnt), cs = cellsEnt v p ∧ goodWEnt v ∧ LowEnt w.heap.size w v p ∧ v.data.length ≤ p.2 := by
  obtain ⟨hl, hf⟩ := h.struct Try.underlying32
  rw [show Try.prog.cellsOf 32 = 5 by kernel_rfl] at hl
  match cs, hl with
  | [v0, v1, v2, v3, v4], _ =>
    have f0 : Rd enc Try.prog w 3 ((([v0, v1, v2, v3, v4] : List Value).drop 0).take (Try.prog.cellsOf 3)) := hf 0 _ rfl
    rw [show Try.prog.cellsOf 3 = 1 by kernel_rfl] at f0
    replace f0 : Rd enc Try.prog w 3 [v0] := f0
    have f1 : Rd enc Try.prog w 30 ((([v0, v1, v2, v3, v4] : List Value).drop 1).take (Try.prog.cellsOf 30)) := hf 1 _ rfl
    rw [show Try.prog.cellsOf 30 = 1 by kernel_rfl] at f1
    replace f1 : Rd enc Try.prog w 30 [v1] := f1
    have f2 : Rd enc Try.prog w 3 ((([v0, v1, v2, v3, v4] : List Value).drop 2).take (Try.prog.cellsOf 3)) := hf 2 _ rfl
    rw [show Try.prog.cellsOf 3 = 1 by kernel_rfl] at f2
    replace f2 : Rd enc Try.prog w 3 [v2] := f2
    have f3 : Rd enc Try.prog w 5 ((([v0, v1, v2, v3, v4] : List Value).drop 3).take (Try.prog.cellsOf 5)) := hf 3 _ rfl
    rw [show Try.prog.cellsOf 5 = 1 by kernel_rfl] at f3
    replace f3 : Rd enc Try.prog w 5 [v3] := f3
    have f4 : Rd enc Try.prog w 22 ((([v0, v1, v2, v3, v4] : List Value).drop 4).take (Try.prog.cellsOf 22)) := hf 4 _ rfl
    rw [show Try.prog.cellsOf 22 = 1 by kernel_rfl] at f4
    replace f4 : Rd enc Try.prog w 22 [v4] := f4
    obtain ⟨x0, e0, g0⟩ := f0.int Try.underlying3
    replace g0 := bounds_i64 g0
    simp only [List.cons.injEq, and_true] at e0
    subst e0
    obtain ⟨x1, e1, g1⟩ := f1.int Try.underlying30
    replace g1 := bounds_i8 g1
    simp only [List.cons.injEq, and_true] at e1
    subst e1
    obtain ⟨x2, e2, g2⟩ := f2.int Try.underlying3
    replace g2 := bounds_i64 g2
    simp only [List.cons.injEq, and_true] at e2
    subst e2
    obtain ⟨x3, e3, g3⟩ := f3.int Try.underlying5
    replace g3 := bounds_u8 g3
    have u3 : Value.int .u8 x3 = B (UInt8.ofNat x3.toNat) := by unfold B; rw [UInt8.toNat_ofNat']; congr 1; omega
    simp only [List.cons.injEq, and_true] at e3
    subst e3
    have hs4 : ∃ a n c, v4 = .slice a n c := by
      rcases f4.slice Try.underlying22 with h1 | ⟨a, n, c, h1, _⟩
      · simp at h1; exact ⟨_, _, _, h1⟩
      · simp at h1; exact ⟨_, _, _, h1⟩
    obtain ⟨a4, n4, c4, rfl⟩ := hs4
    obtain ⟨l4, m4, nc4, cm4, -, -, r4⟩ := f4.bytes Try.underlying22 Try.underlying5 (by kernel_rfl)
    subst m4
    exact ⟨⟨x0, x1, x2, UInt8.ofNat x3.toNat, l4⟩, (a4, c4), by unfold cellsEnt; rw [← u3], ⟨inI_of g0, kindIn_of g1, inI_of g2, trivial, short_of nc4 cm4⟩, ⟨LowRow.of r4 (Nat.le_refl _)⟩, nc4⟩
end Go.Proofs.Ytlckgnemmffdkaa
