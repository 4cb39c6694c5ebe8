/- The place of the first that is so; what is kept of a row. Plain mathematics. -/
namespace Go.Proofs.Ytnebibflmlgbbaa
section
variable {α : Type} {p q : α → Bool} {xs us : List α} {i j k : Nat}
/-- The place of the first that is so; -1: none. -/
def idxL (p : α → Bool) (xs : List α) : Int := match xs.findIdx? p with | some k => (k : Int) | none => -1
theorem idxL_some (hk : k < xs.length) (hno : ∀ j (h : j < xs.length), j < k → p xs[j] = false) (hp : p xs[k] = true) : idxL p xs = k := by
  have : xs.findIdx? p = some k := by
    rw [List.findIdx?_eq_some_iff_getElem]
    exact ⟨hk, hp, fun j hj => by rw [hno j (by omega) hj]; simp⟩
  unfold idxL; rw [this]
theorem idxL_none (hno : ∀ j (h : j < xs.length), p xs[j] = false) : idxL p xs = -1 := by
  have : xs.findIdx? p = none := by
    rw [List.findIdx?_eq_none_iff]
    intro x hx
    obtain ⟨j, hj, rfl⟩ := List.mem_iff_getElem.1 hx
    exact hno j hj
  unfold idxL; rw [this]
/-- The two ways of it. -/
theorem idxL_ways (p : α → Bool) (xs : List α) : (idxL p xs = -1 ∧ ∀ x ∈ xs, p x = false) ∨ ∃ k, ∃ hk : k < xs.length, idxL p xs = k ∧ p xs[k] = true ∧ ∀ j (h : j < xs.length), j < k → p xs[j] = false := by
  unfold idxL
  cases h : xs.findIdx? p with
  | none => exact .inl ⟨rfl, List.findIdx?_eq_none_iff.1 h⟩
  | some k =>
    obtain ⟨hk, h1, h2⟩ := List.findIdx?_eq_some_iff_getElem.1 h
    exact .inr ⟨k, hk, rfl, h1, fun j hj hlt => by simpa using h2 j hlt⟩
/-- The place found, told of the first that is so. -/
theorem idxL_find (p : α → Bool) (xs : List α) : (idxL p xs = -1 ∧ xs.find? p = none) ∨ ∃ k, ∃ hk : k < xs.length, idxL p xs = k ∧ xs.find? p = some xs[k] := by
  rcases idxL_ways p xs with ⟨h1, h2⟩ | ⟨k, hk, h1, h2, h3⟩
  · exact .inl ⟨h1, List.find?_eq_none.2 fun x hx => by rw [h2 x hx]; simp⟩
  · exact .inr ⟨k, hk, h1, List.find?_eq_some_iff_getElem.2 ⟨h2, k, hk, rfl, fun j hj => by rw [h3 j (by omega) hj]; rfl⟩⟩
/-- Whether what was looked for stands there. -/
def hitAt (cmp : α → Int) : Option α → Bool
  | some x => cmp x == 0
  | none => false
/-- DeleteFunc's rounds. -/
theorem df_keep (hj : j < xs.length) (hl : us.length = xs.length) (hij : i < j) (h1 : us.take i = (xs.take j).filter q) (h2 : us.drop j = xs.drop j) (hq : q xs[j] = true) :
    (us.set i xs[j]).take (i + 1) = (xs.take (j + 1)).filter q ∧ (us.set i xs[j]).drop (j + 1) = xs.drop (j + 1) := by
  constructor
  · rw [List.take_succ_eq_append_getElem (by rw [List.length_set]; omega), List.getElem_set_self, List.take_set_of_le (Nat.le_refl _), h1, List.take_succ_eq_append_getElem hj, List.filter_append, List.filter_cons, if_pos hq]; rfl
  · rw [List.drop_set_of_lt (by omega)]
    have := congrArg (List.drop 1) h2
    simpa using this
theorem df_drop (hj : j < xs.length) (h1 : us.take i = (xs.take j).filter q) (h2 : us.drop j = xs.drop j) (hq : q xs[j] = false) :
    us.take i = (xs.take (j + 1)).filter q ∧ us.drop (j + 1) = xs.drop (j + 1) := by
  constructor
  · rw [h1, List.take_succ_eq_append_getElem hj, List.filter_append, List.filter_cons, if_neg (by rw [hq]; simp)]; simp
  · have := congrArg (List.drop 1) h2
    simpa using this
theorem df_at (hj : j < xs.length) (hl : us.length = xs.length) (h2 : us.drop j = xs.drop j) : us[j]'(by omega) = xs[j] := by
  have := congrArg (fun l => l[0]?) h2
  simp only [List.getElem?_drop, Nat.add_zero, List.getElem?_eq_getElem hj, List.getElem?_eq_getElem (show j < us.length by omega), Option.some.injEq] at this
  exact this
theorem df_start (hk : k < xs.length) (hp : q xs[k] = false) (hno : ∀ j (h : j < xs.length), j < k → q xs[j] = true) : xs.take k = (xs.take (k + 1)).filter q := by
  rw [List.take_succ_eq_append_getElem hk, List.filter_append, List.filter_cons, if_neg (by rw [hp]; simp), List.filter_nil, List.append_nil]
  symm
  rw [List.filter_eq_self]
  intro x hx
  obtain ⟨j, hj, rfl⟩ := List.mem_iff_getElem.1 hx
  rw [List.length_take] at hj
  rw [List.getElem_take]
  exact hno j (by omega) (by omega)
end
end Go.Proofs.Ytnebibflmlgbbaa
