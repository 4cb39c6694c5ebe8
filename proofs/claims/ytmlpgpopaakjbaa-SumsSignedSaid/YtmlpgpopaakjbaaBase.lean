/- What all the walks of this seat lean on: bytes and rows of cells in memory. -/
import Derived.Test.YtmlpgpopaakjbaaRows
import Derived.WalkKit
import Derived.ProofKit
import Derived.Outline
import Derived.OpenShut
import Derived.ShutString
import Derived.ChangeOld
import Derived.Below
import Derived.Handy
import Derived.BigQuiet
import Derived.Deep.QuietTactic
import Derived.Deep.DeepFit
import Derived.Lib.Hide
import Derived.Lib.SlBytesConst
namespace Go.Proofs.Ytmlpgpopaakjbaa
open Go.ChangeShapes Go.WideShapes Go.ChangeAt Go.RowKit

/-- A byte as a value. -/
abbrev B (x : UInt8) : Value := .int .u8 (x.toNat : Int)
/-- From the address on, the memory reads as these cells. -/
def Row (w : World) (a : Option Addr) (xs : List Value) : Prop :=
  xs = [] ∨ ∃ b o, a = some ⟨b, o, none⟩ ∧ ∀ i (h : i < xs.length), w.cell? ⟨b, o + i, none⟩ = some xs[i]
abbrev RowB (w : World) (a : Option Addr) (l : List UInt8) : Prop := Row w a (l.map B)

theorem Row.nil (w : World) (a : Option Addr) : Row w a [] := .inl rfl
theorem Row.at {w : World} {a : Option Addr} {xs : List Value} (h : Row w a xs) {k : Nat} (hk : k < xs.length) :
    ∃ b o, a = some ⟨b, o, none⟩ ∧ ∀ i (h : i < xs.length), w.cell? ⟨b, o + i, none⟩ = some xs[i] := by
  rcases h with rfl | h
  · simp at hk
  · exact h
theorem RowB.at {w : World} {a : Option Addr} {l : List UInt8} (h : RowB w a l) {k : Nat} (hk : k < l.length) :
    ∃ b o, a = some ⟨b, o, none⟩ ∧ ∀ i (h : i < l.length), w.cell? ⟨b, o + i, none⟩ = some (.int .u8 (l[i].toNat : Int)) := by
  obtain ⟨b, o, ha, hc⟩ := Row.at h (k := k) (by simpa using hk)
  exact ⟨b, o, ha, fun i hi => by have := hc i (by simpa using hi); rw [List.getElem_map] at this; exact this⟩
end Go.Proofs.Ytmlpgpopaakjbaa
