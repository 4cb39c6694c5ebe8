import Derived.Test.YtmihgdjnjfjjcaaPackFollowComes1
import Derived.Test.YtmihgdjnjfjjcaaRwMem
set_option linter.unusedVariables false
set_option linter.unusedSimpArgs false
/- A slice of truths, rows of entries: arguments opened. -/
namespace Go.Proofs.Ytmihgdjnjfjjcaa
open Go.ChangeShapes Go.WideShapes Go.ChangeAt Go.RowKit Go.Deep
set_option maxRecDepth 100000

/-- A slice of truths, opened. -/
theorem Rd.bools {H : Type} {enc : TypeId × Value → H} {P : Program} {w : World} {t : TypeId} {e : TypeId} {a : Option Addr} {len cap : Nat} (ht : P.underlying t = some (.slice e)) (he : P.underlying e = some .bool) (hc : P.cellsOf e = 1) (h : Rd enc P w t [.slice a len cap]) :
    ∃ zs : List Bool, zs.length = len ∧ len ≤ cap ∧ cap ≤ maxLen ∧ cap * P.bytesOf e ≤ reachBytes ∧ (a = none → cap = 0) ∧ Row w a (zs.map Value.bool) := by
  rcases h.slice ht with h1 | ⟨x, l, c, h1, hl, hm, hby, hel⟩
  · simp at h1
    obtain ⟨rfl, rfl, rfl⟩ := h1
    exact ⟨[], rfl, Nat.le_refl _, Nat.zero_le _, by simp, fun _ => rfl, .inl rfl⟩
  · simp at h1
    obtain ⟨rfl, rfl, rfl⟩ := h1
    rw [hc] at hel
    have hv : ∀ i, i < len → ∃ n, w.cell? (x.add i) = some (.bool n) := by
      intro i hi
      obtain ⟨cs, hcs, hr⟩ := hel i (by omega)
      obtain ⟨n, rfl⟩ := hr.bool he
      refine ⟨n, ?_⟩
      rw [Nat.mul_one] at hcs
      simp only [World.cells?, Nat.zero_le, if_true, List.range_succ, List.range_zero, List.nil_append] at hcs
      have he : (x.add i).add 0 = x.add i := by simp [Addr.add]
      simp only [List.mapM_cons, List.mapM_nil, he] at hcs
      revert hcs
      cases w.cell? (x.add i) with
      | none => intro h; cases h
      | some v => intro h; simpa using h
    obtain ⟨g, hg⟩ := choose_lt (p := fun i n => w.cell? (x.add i) = some (.bool n)) hv
    refine ⟨(List.range len).map g, by simp, hl, hm, hby, fun e => by simp at e, ?_⟩
    · by_cases h0 : len = 0
      · subst h0; exact .inl rfl
      · have hs := World.cell?_spot (hg 0 (by omega))
        have hspot : x.spot = none := by simpa [Addr.add] using hs
        obtain ⟨b, o, spot⟩ := x
        simp only at hspot
        subst hspot
        refine .inr ⟨b, o, rfl, fun i hi => ?_⟩
        simp only [List.length_map, List.length_range] at hi
        have := (hg i hi)
        by_cases hi0 : i = 0
        · subst hi0; simpa [Addr.add] using this
        · simpa [Addr.add, hi0] using this
end Go.Proofs.Ytmihgdjnjfjjcaa
