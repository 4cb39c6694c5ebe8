import Derived.Test.YtlckgnemmffdkaaPackWireMessage1
import Derived.Test.YtlckgnemmffdkaaWirMsg
import Derived.Test.YtlckgnemmffdkaaPackWireMessage3
set_option linter.unusedVariables false
set_option linter.unusedSimpArgs false
/- An argument opened: weir/api.Message. (printed by gen_wopen.py) -/
namespace Go.Proofs.Ytlckgnemmffdkaa
open Go.ChangeShapes Go.WideShapes Go.ChangeAt Go.RowKit
set_option maxRecDepth 100000

theorem open_wmsg {H : Type} {enc : TypeId × Value → H} {w : World} {cs : List Value} (h : Rd enc Try.prog w 67 cs) : ∃ (v : WMsg) (p : PMsg), cs = cellsMsg v p ∧ goodWMsg v ∧ LowMsg w.heap.size w v p ∧ v.entries.length ≤ 1000000000000000 ∧ ∀ y ∈ v.entries, y.data.length ≤ 1000000000000000 := by
  obtain ⟨hl, hf⟩ := h.struct Try.underlying67
  rw [show Try.prog.cellsOf 67 = 14 by kernel_rfl] at hl
  match cs, hl with
  | [v0, v1, v2, v3, v4, v5, v6, v7, v8, v9, v10, v11, v12, v13], _ =>
    have f0 : Rd enc Try.prog w 30 ((([v0, v1, v2, v3, v4, v5, v6, v7, v8, v9, v10, v11, v12, v13] : List Value).drop 0).take (Try.prog.cellsOf 30)) := hf 0 _ rfl
    rw [show Try.prog.cellsOf 30 = 1 by kernel_rfl] at f0
    replace f0 : Rd enc Try.prog w 30 [v0] := f0
    have f1 : Rd enc Try.prog w 3 ((([v0, v1, v2, v3, v4, v5, v6, v7, v8, v9, v10, v11, v12, v13] : List Value).drop 1).take (Try.prog.cellsOf 3)) := hf 1 _ rfl
    rw [show Try.prog.cellsOf 3 = 1 by kernel_rfl] at f1
    replace f1 : Rd enc Try.prog w 3 [v1] := f1
    have f2 : Rd enc Try.prog w 3 ((([v0, v1, v2, v3, v4, v5, v6, v7, v8, v9, v10, v11, v12, v13] : List Value).drop 2).take (Try.prog.cellsOf 3)) := hf 2 _ rfl
    rw [show Try.prog.cellsOf 3 = 1 by kernel_rfl] at f2
    replace f2 : Rd enc Try.prog w 3 [v2] := f2
    have f3 : Rd enc Try.prog w 3 ((([v0, v1, v2, v3, v4, v5, v6, v7, v8, v9, v10, v11, v12, v13] : List Value).drop 3).take (Try.prog.cellsOf 3)) := hf 3 _ rfl
    rw [show Try.prog.cellsOf 3 = 1 by kernel_rfl] at f3
    replace f3 : Rd enc Try.prog w 3 [v3] := f3
    have f4 : Rd enc Try.prog w 3 ((([v0, v1, v2, v3, v4, v5, v6, v7, v8, v9, v10, v11, v12, v13] : List Value).drop 4).take (Try.prog.cellsOf 3)) := hf 4 _ rfl
    rw [show Try.prog.cellsOf 3 = 1 by kernel_rfl] at f4
    replace f4 : Rd enc Try.prog w 3 [v4] := f4
    have f5 : Rd enc Try.prog w 3 ((([v0, v1, v2, v3, v4, v5, v6, v7, v8, v9, v10, v11, v12, v13] : List Value).drop 5).take (Try.prog.cellsOf 3)) := hf 5 _ rfl
    rw [show Try.prog.cellsOf 3 = 1 by kernel_rfl] at f5
    replace f5 : Rd enc Try.prog w 3 [v5] := f5
    have f6 : Rd enc Try.prog w 3 ((([v0, v1, v2, v3, v4, v5, v6, v7, v8, v9, v10, v11, v12, v13] : List Value).drop 6).take (Try.prog.cellsOf 3)) := hf 6 _ rfl
    rw [show Try.prog.cellsOf 3 = 1 by kernel_rfl] at f6
    replace f6 : Rd enc Try.prog w 3 [v6] := f6
    have f7 : Rd enc Try.prog w 4 ((([v0, v1, v2, v3, v4, v5, v6, v7, v8, v9, v10, v11, v12, v13] : List Value).drop 7).take (Try.prog.cellsOf 4)) := hf 7 _ rfl
    rw [show Try.prog.cellsOf 4 = 1 by kernel_rfl] at f7
    replace f7 : Rd enc Try.prog w 4 [v7] := f7
    have f8 : Rd enc Try.prog w 63 ((([v0, v1, v2, v3, v4, v5, v6, v7, v8, v9, v10, v11, v12, v13] : List Value).drop 8).take (Try.prog.cellsOf 63)) := hf 8 _ rfl
    rw [show Try.prog.cellsOf 63 = 1 by kernel_rfl] at f8
    replace f8 : Rd enc Try.prog w 63 [v8] := f8
    have f9 : Rd enc Try.prog w 65 ((([v0, v1, v2, v3, v4, v5, v6, v7, v8, v9, v10, v11, v12, v13] : List Value).drop 9).take (Try.prog.cellsOf 65)) := hf 9 _ rfl
    rw [show Try.prog.cellsOf 65 = 4 by kernel_rfl] at f9
    replace f9 : Rd enc Try.prog w 65 [v9, v10, v11, v12] := f9
    have f10 : Rd enc Try.prog w 22 ((([v0, v1, v2, v3, v4, v5, v6, v7, v8, v9, v10, v11, v12, v13] : List Value).drop 13).take (Try.prog.cellsOf 22)) := hf 10 _ rfl
    rw [show Try.prog.cellsOf 22 = 1 by kernel_rfl] at f10
    replace f10 : Rd enc Try.prog w 22 [v13] := f10
    obtain ⟨x0, e0, g0⟩ := f0.int Try.underlying30
    replace g0 := bounds_i8 g0
    simp only [List.cons.injEq, and_true] at e0
    subst e0
    obtain ⟨x1, e1, g1⟩ := f1.int Try.underlying3
    replace g1 := bounds_i64 g1
    simp only [List.cons.injEq, and_true] at e1
    subst e1
    obtain ⟨x2, e2, g2⟩ := f2.int Try.underlying3
    replace g2 := bounds_i64 g2
    simp only [List.cons.injEq, and_true] at e2
    subst e2
    obtain ⟨x3, e3, g3⟩ := f3.int Try.underlying3
    replace g3 := bounds_i64 g3
    simp only [List.cons.injEq, and_true] at e3
    subst e3
    obtain ⟨x4, e4, g4⟩ := f4.int Try.underlying3
    replace g4 := bounds_i64 g4
    simp only [List.cons.injEq, and_true] at e4
    subst e4
    obtain ⟨x5, e5, g5⟩ := f5.int Try.underlying3
    replace g5 := bounds_i64 g5
    simp only [List.cons.injEq, and_true] at e5
    subst e5
    obtain ⟨x6, e6, g6⟩ := f6.int Try.underlying3
    replace g6 := bounds_i64 g6
    simp only [List.cons.injEq, and_true] at e6
    subst e6
    obtain ⟨x7, e7⟩ := f7.bool Try.underlying4
    simp only [List.cons.injEq, and_true] at e7
    subst e7
    have hs8 : ∃ a n c, v8 = .slice a n c := by
      rcases f8.slice Try.underlying63 with h1 | ⟨a, n, c, h1, _⟩
      · simp at h1; exact ⟨_, _, _, h1⟩
      · simp at h1; exact ⟨_, _, _, h1⟩
    obtain ⟨a8, n8, c8, rfl⟩ := hs8
    obtain ⟨l8, m8, nc8, cm8, bb8, -, g8, r8⟩ := Rd.rows (α := WEnt × PEnt) (cells := fun y => cellsEnt y.1 y.2) (size := 5) (good := fun y => goodWEnt y.1 ∧ LowEnt w.heap.size w y.1 y.2 ∧ y.1.data.length ≤ y.2.2 ∧ y.1.data.length ≤ 1000000000000000) (fun _ => rfl) (by decide) Try.underlying63 (by kernel_rfl) (fun cs hcs => by obtain ⟨v, p, hx, h1⟩ := open_went hcs; exact ⟨(v, p), hx, h1⟩) f8
    rw [show Try.prog.bytesOf 32 = 56 by kernel_rfl] at bb8
    subst m8
    obtain ⟨x9, y9, s9, l9, a9, c9, e9, g9⟩ := open_wsnap f9
    simp only [List.cons.injEq, and_true] at e9
    obtain ⟨rfl, rfl, rfl, rfl⟩ := e9
    have hs10 : ∃ a n c, v13 = .slice a n c := by
      rcases f10.slice Try.underlying22 with h1 | ⟨a, n, c, h1, _⟩
      · simp at h1; exact ⟨_, _, _, h1⟩
      · simp at h1; exact ⟨_, _, _, h1⟩
    obtain ⟨a10, n10, c10, rfl⟩ := hs10
    obtain ⟨l10, m10, nc10, cm10, bb10, -, r10⟩ := f10.bytes Try.underlying22 Try.underlying5 (by kernel_rfl)
    subst m10
    have hh : l8.length ≤ 1000000000000000 := by unfold reachBytes at bb8; omega
    clear bb10
    exact ⟨⟨x0, x1, x2, x3, x4, x5, x6, x7, l8.map Prod.fst, x9, y9, s9, l9, l10⟩, (a8, c8, a9, c9, a10, c10), by simp, ⟨kindIn_of g0, inI_of g1, inI_of g2, inI_of g3, inI_of g4, inI_of g5, inI_of g6, trivial, ⟨by rw [List.length_map]; exact short_of nc8 cm8, fun y hy => by obtain ⟨z, hz, rfl⟩ := List.mem_map.1 hy; exact (g8 z hz).1⟩, g9.1, g9.2.1, trivial, g9.2.2.1, short_of nc10 cm10⟩, ⟨⟨l8, rfl, LowRow.of r8 (Nat.le_refl _), fun y hy => (g8 y hy).2.1⟩, LowRow.of g9.2.2.2 (Nat.le_refl _), LowRow.of r10 (Nat.le_refl _)⟩, by rw [List.length_map]; exact hh, fun y hy => by obtain ⟨z, hz, rfl⟩ := List.mem_map.1 hy; exact (g8 z hz).2.2.2⟩
end Go.Proofs.Ytlckgnemmffdkaa
