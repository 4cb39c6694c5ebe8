import Derived.Test.YtnpbajmpenpnbaaOpen
import Derived.Test.YtnpbajmpenpnbaaTen
namespace Go.Proofs.Ytnpbajmpenpnbaa
open Go.ChangeShapes Go.WideShapes Go.ChangeAt Go.RowKit

theorem open_tenant {H : Type} {enc : TypeId × Value → H} {w : World} {cs : List Value} (h : Rd enc Try.prog w 38 cs) : ∃ x : Tenant, cs = x.cells := by
  obtain ⟨hl, hf⟩ := h.struct Try.underlying38
  have h5 : Try.prog.cellsOf 38 = 5 := by kernel_rfl
  have c3 : Try.prog.cellsOf 3 = 1 := by kernel_rfl
  have c4 : Try.prog.cellsOf 4 = 1 := by kernel_rfl
  rw [h5] at hl
  match cs, hl with
  | [v0, v1, v2, v3, v4], _ =>
    have f0 : Rd enc Try.prog w 3 ((([v0, v1, v2, v3, v4] : List Value).drop 0).take (Try.prog.cellsOf 3)) := hf 0 _ rfl
    rw [c3] at f0
    replace f0 : Rd enc Try.prog w 3 [v0] := f0
    have f1 : Rd enc Try.prog w 3 ((([v0, v1, v2, v3, v4] : List Value).drop 1).take (Try.prog.cellsOf 3)) := hf 1 _ rfl
    rw [c3] at f1
    replace f1 : Rd enc Try.prog w 3 [v1] := f1
    have f2 : Rd enc Try.prog w 3 ((([v0, v1, v2, v3, v4] : List Value).drop 2).take (Try.prog.cellsOf 3)) := hf 2 _ rfl
    rw [c3] at f2
    replace f2 : Rd enc Try.prog w 3 [v2] := f2
    have f3 : Rd enc Try.prog w 3 ((([v0, v1, v2, v3, v4] : List Value).drop 3).take (Try.prog.cellsOf 3)) := hf 3 _ rfl
    rw [c3] at f3
    replace f3 : Rd enc Try.prog w 3 [v3] := f3
    have f4 : Rd enc Try.prog w 4 ((([v0, v1, v2, v3, v4] : List Value).drop 4).take (Try.prog.cellsOf 4)) := hf 4 _ rfl
    rw [c4] at f4
    replace f4 : Rd enc Try.prog w 4 [v4] := f4
    obtain ⟨n0, e0, -⟩ := f0.int Try.underlying3
    obtain ⟨n1, e1, -⟩ := f1.int Try.underlying3
    obtain ⟨n2, e2, -⟩ := f2.int Try.underlying3
    obtain ⟨n3, e3, -⟩ := f3.int Try.underlying3
    obtain ⟨b4, e4⟩ := f4.bool Try.underlying4
    simp only [List.cons.injEq, and_true] at e0 e1 e2 e3 e4
    subst e0 e1 e2 e3 e4
    exact ⟨⟨n0, n1, n2, n3, b4⟩, rfl⟩
theorem open_tenants {H : Type} {enc : TypeId × Value → H} {w : World} {a : Option Addr} {len cap : Nat} (h : Rd enc Try.prog w 22 [.slice a len cap]) :
    ∃ ts : List Tenant, ts.length = len ∧ len ≤ cap ∧ (a = none → cap = 0) ∧ TRow w a ts := by
  obtain ⟨xs, h1, h2, h3, _, h5, _, hr⟩ := Rd.rows (α := Tenant) (cells := Tenant.cells) (size := 5) (good := fun _ => True) (fun _ => rfl) (by decide) Try.underlying22 (by kernel_rfl) (fun cs hcs => by obtain ⟨x, hx⟩ := open_tenant hcs; exact ⟨x, hx, trivial⟩) h
  exact ⟨xs, h1, h2, h5, hr⟩
end Go.Proofs.Ytnpbajmpenpnbaa
