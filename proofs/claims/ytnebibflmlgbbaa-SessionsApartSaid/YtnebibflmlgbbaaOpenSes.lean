import Derived.Test.YtnebibflmlgbbaaOpen
import Derived.Test.YtnebibflmlgbbaaSesLay
namespace Go.Proofs.Ytnebibflmlgbbaa
open Go.ChangeShapes Go.WideShapes Go.ChangeAt Go.RowKit

theorem open_ans {H : Type} {enc : TypeId × Value → H} {w : World} {cs : List Value} (h : Rd enc Try.prog w 26 cs) : ∃ x : Ans, cs = x.cells := by
  obtain ⟨hl, hf⟩ := h.struct Try.underlying26
  have hn : Try.prog.cellsOf 26 = 5 := by kernel_rfl
  have z_int : Try.prog.cellsOf 3 = 1 := by kernel_rfl
  have z_Errno : Try.prog.cellsOf 24 = 1 := by kernel_rfl
  rw [hn] at hl
  match cs, hl with
  | [v0, v1, v2, v3, v4], _ =>
    have f0 : Rd enc Try.prog w 24 ((([v0, v1, v2, v3, v4] : List Value).drop 0).take (Try.prog.cellsOf 24)) := hf 0 _ rfl
    rw [z_Errno] at f0
    replace f0 : Rd enc Try.prog w 24 [v0] := f0
    obtain ⟨x0, e0, -⟩ := f0.int Try.underlying24
    have f1 : Rd enc Try.prog w 3 ((([v0, v1, v2, v3, v4] : List Value).drop 1).take (Try.prog.cellsOf 3)) := hf 1 _ rfl
    rw [z_int] at f1
    replace f1 : Rd enc Try.prog w 3 [v1] := f1
    obtain ⟨x1, e1, -⟩ := f1.int Try.underlying3
    have f2 : Rd enc Try.prog w 3 ((([v0, v1, v2, v3, v4] : List Value).drop 2).take (Try.prog.cellsOf 3)) := hf 2 _ rfl
    rw [z_int] at f2
    replace f2 : Rd enc Try.prog w 3 [v2] := f2
    obtain ⟨x2, e2, -⟩ := f2.int Try.underlying3
    have f3 : Rd enc Try.prog w 3 ((([v0, v1, v2, v3, v4] : List Value).drop 3).take (Try.prog.cellsOf 3)) := hf 3 _ rfl
    rw [z_int] at f3
    replace f3 : Rd enc Try.prog w 3 [v3] := f3
    obtain ⟨x3, e3, -⟩ := f3.int Try.underlying3
    have f4 : Rd enc Try.prog w 3 ((([v0, v1, v2, v3, v4] : List Value).drop 4).take (Try.prog.cellsOf 3)) := hf 4 _ rfl
    rw [z_int] at f4
    replace f4 : Rd enc Try.prog w 3 [v4] := f4
    obtain ⟨x4, e4, -⟩ := f4.int Try.underlying3
    simp only [List.cons.injEq, and_true] at e0 e1 e2 e3 e4
    subst e0
    subst e1
    subst e2
    subst e3
    subst e4
    exact ⟨⟨x0, x1, x2, x3, x4⟩, rfl⟩
theorem open_ses {H : Type} {enc : TypeId × Value → H} {w : World} {cs : List Value} (h : Rd enc Try.prog w 44 cs) : ∃ x : Session, cs = x.cells := by
  obtain ⟨hl, hf⟩ := h.struct Try.underlying44
  have hn : Try.prog.cellsOf 44 = 7 := by kernel_rfl
  have z_int : Try.prog.cellsOf 3 = 1 := by kernel_rfl
  have z_Answer : Try.prog.cellsOf 26 = 5 := by kernel_rfl
  rw [hn] at hl
  match cs, hl with
  | [v0, v1, v2, v3, v4, v5, v6], _ =>
    have f0 : Rd enc Try.prog w 3 ((([v0, v1, v2, v3, v4, v5, v6] : List Value).drop 0).take (Try.prog.cellsOf 3)) := hf 0 _ rfl
    rw [z_int] at f0
    replace f0 : Rd enc Try.prog w 3 [v0] := f0
    obtain ⟨x0, e0, -⟩ := f0.int Try.underlying3
    have f1 : Rd enc Try.prog w 3 ((([v0, v1, v2, v3, v4, v5, v6] : List Value).drop 1).take (Try.prog.cellsOf 3)) := hf 1 _ rfl
    rw [z_int] at f1
    replace f1 : Rd enc Try.prog w 3 [v1] := f1
    obtain ⟨x1, e1, -⟩ := f1.int Try.underlying3
    have f2 : Rd enc Try.prog w 26 ((([v0, v1, v2, v3, v4, v5, v6] : List Value).drop 2).take (Try.prog.cellsOf 26)) := hf 2 _ rfl
    rw [z_Answer] at f2
    replace f2 : Rd enc Try.prog w 26 [v2, v3, v4, v5, v6] := f2
    obtain ⟨x2, e2⟩ := open_ans f2
    simp only [List.cons.injEq, and_true] at e0 e1 e2
    subst e0
    subst e1
    obtain ⟨rfl, rfl, rfl, rfl, rfl⟩ := e2
    exact ⟨⟨x0, x1, x2⟩, rfl⟩
theorem open_sess {H : Type} {enc : TypeId × Value → H} {w : World} {a : Option Addr} {len cap : Nat} (h : Rd enc Try.prog w 22 [.slice a len cap]) :
    ∃ ts : List Session, ts.length = len ∧ len ≤ cap ∧ cap ≤ maxLen ∧ (a = none → cap = 0) ∧ LRow laySes w a ts := by
  obtain ⟨xs, h1, h2, h3, _, h5, _, hr⟩ := Rd.rows (α := Session) (cells := Session.cells) (size := 7) (good := fun _ => True) (fun _ => rfl) (by decide) Try.underlying22 (by kernel_rfl) (fun cs hcs => by obtain ⟨x, hx⟩ := open_ses hcs; exact ⟨x, hx, trivial⟩) h
  exact ⟨xs, h1, h2, h3, h5, hr⟩
end Go.Proofs.Ytnebibflmlgbbaa
