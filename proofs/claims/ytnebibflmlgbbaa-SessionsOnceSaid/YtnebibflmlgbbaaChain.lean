/- Rows that rise by a key. Plain mathematics. -/
namespace Go.Proofs.Ytnebibflmlgbbaa
section
variable {α : Type} {key : α → Int} {good : α → Bool}

def chainOk (key : α → Int) (good : α → Bool) : Int → List α → Bool
  | _, [] => true
  | a, x :: l => decide (a < key x) && good x && chainOk key good (key x) l
def lastKey (key : α → Int) (a : Int) (l : List α) : Int := match l.getLast? with | some x => key x | none => a
theorem lastKey_take {l : List α} {k : Nat} {a : Int} (h : k < l.length) : lastKey key a (l.take (k + 1)) = key l[k] := by
  unfold lastKey; rw [List.take_succ_eq_append_getElem h, List.getLast?_concat]
theorem chainOk_append : ∀ (l m : List α) (a : Int), chainOk key good a (l ++ m) = (chainOk key good a l && chainOk key good (lastKey key a l) m)
  | [], m, a => by simp [chainOk, lastKey]
  | x :: l, m, a => by
    have e : lastKey key a (x :: l) = lastKey key (key x) l := by
      unfold lastKey
      cases l with
      | nil => simp
      | cons y l =>
        rw [List.getLast?_cons_cons]
        cases h : (y :: l).getLast? with
        | none => simp at h
        | some z => rfl
    rw [List.cons_append, chainOk, chainOk, chainOk_append l m, e]
    simp only [Bool.and_assoc]
theorem chainOk_take {l : List α} {k : Nat} {a : Int} (h : k < l.length) : chainOk key good a (l.take (k + 1)) = (chainOk key good a (l.take k) && (decide (lastKey key a (l.take k) < key l[k]) && good l[k])) := by
  rw [List.take_succ_eq_append_getElem h, chainOk_append]; simp [chainOk]
theorem chainOk_bad {l : List α} {k : Nat} {a : Int} (h : k < l.length) (hb : (decide (lastKey key a (l.take k) < key l[k]) && good l[k]) = false) : chainOk key good a l = false := by
  have h1 : chainOk key good a (l.take (k + 1)) = false := by rw [chainOk_take h, hb, Bool.and_false]
  have h2 := chainOk_append (key := key) (good := good) (l.take (k + 1)) (l.drop (k + 1)) a
  rw [List.take_append_drop, h1, Bool.false_and] at h2
  exact h2
theorem chainOk_iff : ∀ {l : List α} {a : Int}, chainOk key good a l = true ↔ (∀ x ∈ l, a < key x ∧ good x = true) ∧ l.Pairwise (fun x y => key x < key y)
  | [], a => by simp [chainOk]
  | y :: l, a => by
    rw [chainOk, Bool.and_eq_true, Bool.and_eq_true, decide_eq_true_eq, chainOk_iff, List.pairwise_cons]
    constructor
    · rintro ⟨⟨h1, h2⟩, h3, h4⟩
      refine ⟨fun x hx => ?_, fun x hx => (h3 x hx).1, h4⟩
      rcases List.mem_cons.1 hx with rfl | hx
      · exact ⟨h1, h2⟩
      · have := h3 x hx; exact ⟨by omega, this.2⟩
    · rintro ⟨h1, h2, h3⟩
      exact ⟨h1 y (List.mem_cons_self ..), fun x hx => ⟨h2 x hx, (h1 x (List.mem_cons_of_mem _ hx)).2⟩, h3⟩
theorem lastKey_ge {l : List α} {a : Int} (h : chainOk key good a l = true) : a ≤ lastKey key a l := by
  unfold lastKey
  cases hl : l.getLast? with
  | none => exact Int.le_refl _
  | some x => have := ((chainOk_iff.1 h).1 x (List.mem_of_getLast? hl)).1; simp only; omega

/-- The one of a key. -/
def findK (key : α → Int) (l : List α) (id : Int) : Option α := l.find? (fun x => key x == id)
theorem findK_mem {l : List α} {id : Int} {x : α} (h : findK key l id = some x) : x ∈ l ∧ key x = id :=
  ⟨List.mem_of_find?_eq_some h, by simpa using List.find?_some h⟩
theorem findK_at {l : List α} {id : Int} {k : Nat} (hs : l.Pairwise (fun x y => key x < key y)) (hk : k < l.length) (h : key l[k] = id) : findK key l id = some l[k] := by
  unfold findK
  rw [List.find?_eq_some_iff_getElem]
  refine ⟨by simpa using h, k, hk, rfl, fun j hj => ?_⟩
  have := (List.pairwise_iff_getElem.1 hs) j k (by omega) hk hj
  simp; omega
theorem findK_none {l : List α} {id : Int} (h : ∀ j (hj : j < l.length), key l[j] ≠ id) : findK key l id = none := by
  unfold findK
  rw [List.find?_eq_none]
  intro x hx
  obtain ⟨j, hj, rfl⟩ := List.mem_iff_getElem.1 hx
  simpa using h j hj
/-- Put into its place, in the place of the one of its key. -/
def insK (key : α → Int) (x : α) : List α → List α
  | [] => [x]
  | y :: l => if key x < key y then x :: y :: l else if key y = key x then x :: l else y :: insK key x l
/-- How many are less. -/
def lessK (key : α → Int) (id : Int) : List α → Nat
  | [] => 0
  | y :: l => if key y < id then lessK key id l + 1 else 0
theorem lessK_le (id : Int) : ∀ l : List α, lessK key id l ≤ l.length
  | [] => Nat.le_refl _
  | y :: l => by unfold lessK; split <;> simp; exact lessK_le id l
theorem lessK_lo (id : Int) : ∀ {l : List α} (j : Nat) (h : j < l.length), j < lessK key id l → key l[j] < id
  | y :: l, 0, _, hj => by unfold lessK at hj; split at hj; assumption; omega
  | y :: l, j + 1, h, hj => by
    unfold lessK at hj
    split at hj
    · exact lessK_lo id j (by simpa using h) (by omega)
    · omega
theorem lessK_hi (id : Int) : ∀ {l : List α}, l.Pairwise (fun x y => key x < key y) → ∀ (j : Nat) (h : j < l.length), lessK key id l ≤ j → id ≤ key l[j]
  | y :: l, hs, 0, _, hj => by unfold lessK at hj; split at hj; omega; simp; omega
  | y :: l, hs, j + 1, h, hj => by
    rw [List.pairwise_cons] at hs
    unfold lessK at hj
    split at hj
    · exact lessK_hi id hs.2 j (by simpa using h) (by omega)
    · have h2 : l[j]'(by simpa using h) ∈ l := List.getElem_mem _
      have := hs.1 _ h2
      simp only [List.getElem_cons_succ]
      omega
theorem insK_none {x : α} : ∀ {l : List α}, (∀ y, l[lessK key (key x) l]? = some y → key y ≠ key x) → insK key x l = l.take (lessK key (key x) l) ++ x :: l.drop (lessK key (key x) l)
  | [], _ => rfl
  | y :: l, h => by
    unfold insK lessK at *
    by_cases h1 : key y < key x
    · rw [if_neg (by omega), if_neg (by omega), if_pos h1]
      simp only [if_pos h1, List.getElem?_cons_succ] at h
      rw [insK_none h]; rfl
    · simp only [if_neg h1, List.getElem?_cons_zero, Option.some.injEq, forall_eq'] at h
      rw [if_pos (by omega), if_neg h1]; rfl
theorem insK_some {x : α} : ∀ {l : List α} {y : α}, l[lessK key (key x) l]? = some y → key y = key x → insK key x l = l.set (lessK key (key x) l) x
  | y :: l, z, h, hz => by
    unfold insK lessK at *
    by_cases h1 : key y < key x
    · rw [if_neg (by omega), if_neg (by omega), if_pos h1]
      simp only [if_pos h1, List.getElem?_cons_succ] at h
      rw [insK_some h hz]; rfl
    · simp only [if_neg h1, List.getElem?_cons_zero, Option.some.injEq] at h
      subst h
      rw [if_neg (by omega), if_pos hz, if_neg h1]; rfl
  | [], _, h, _ => by simp at h
theorem mem_insK {x y : α} : ∀ {l : List α}, y ∈ insK key x l → y = x ∨ y ∈ l
  | [], h => by simp [insK] at h; exact .inl h
  | z :: l, h => by
    unfold insK at h
    split at h
    · simpa using h
    · split at h
      · rcases List.mem_cons.1 h with h | h
        · exact .inl h
        · exact .inr (List.mem_cons_of_mem _ h)
      · rcases List.mem_cons.1 h with h | h
        · exact .inr (by rw [h]; exact List.mem_cons_self ..)
        · exact (mem_insK h).imp id (List.mem_cons_of_mem _)
theorem insK_sorted {x : α} : ∀ {l : List α}, l.Pairwise (fun x y => key x < key y) → (insK key x l).Pairwise (fun x y => key x < key y)
  | [], _ => by simp [insK]
  | z :: l, h => by
    rw [List.pairwise_cons] at h
    unfold insK
    split
    · rename_i hlt
      rw [List.pairwise_cons, List.pairwise_cons]
      refine ⟨fun y hy => ?_, h⟩
      rcases List.mem_cons.1 hy with rfl | hy
      · exact hlt
      · have := h.1 y hy; omega
    · split
      · rename_i he
        rw [List.pairwise_cons]
        exact ⟨fun y hy => by have := h.1 y hy; omega, h.2⟩
      · rename_i h1 h2
        rw [List.pairwise_cons]
        refine ⟨fun y hy => ?_, insK_sorted h.2⟩
        rcases mem_insK hy with rfl | hy
        · omega
        · exact h.1 y hy
theorem chainOk_insK {x : α} {l : List α} {a : Int} (h : chainOk key good a l = true) (hx : a < key x) (hg : good x = true) : chainOk key good a (insK key x l) = true := by
  obtain ⟨h1, h2⟩ := chainOk_iff.1 h
  refine chainOk_iff.2 ⟨fun y hy => ?_, insK_sorted h2⟩
  rcases mem_insK hy with rfl | hy
  · exact ⟨hx, hg⟩
  · exact h1 y hy
theorem find_insK_self {x : α} : ∀ (l : List α), l.Pairwise (fun x y => key x < key y) → findK key (insK key x l) (key x) = some x
  | [], _ => by simp [insK, findK]
  | z :: l, h => by
    rw [List.pairwise_cons] at h
    unfold insK
    split
    · simp [findK]
    · split
      · simp [findK]
      · rename_i h1 h2
        have := find_insK_self l h.2 (x := x)
        unfold findK at this ⊢
        rw [List.find?_cons_of_neg (by simpa using h2)]
        exact this
theorem find_insK_other {x : α} {id : Int} (h : key x ≠ id) : ∀ l : List α, findK key (insK key x l) id = findK key l id
  | [] => by simp [insK, findK, h]
  | z :: l => by
    have ih := find_insK_other h l
    unfold insK
    split
    · unfold findK; rw [List.find?_cons_of_neg (by simpa using h)]
    · split
      · rename_i h1 h2
        unfold findK
        rw [List.find?_cons_of_neg (by simpa using h), List.find?_cons_of_neg (by simp; omega)]
      · unfold findK at ih ⊢
        rw [List.find?_cons, List.find?_cons, ih]
theorem insK_length (x : α) : ∀ l : List α, (insK key x l).length ≤ l.length + 1
  | [] => by simp [insK]
  | z :: l => by
    have := insK_length x l
    unfold insK
    split
    · simp
    · split <;> simp; omega
/-- The document's way to put one in: over the row, once. -/
def putStep (key : α → Int) (x : α) (acc : List α × Bool) (y : α) : List α × Bool :=
  ((if acc.2 = false ∧ key x ≤ key y then acc.1 ++ [x] else acc.1) ++ (if key y = key x then [] else [y]), acc.2 || decide (key x ≤ key y))
def putRef (key : α → Int) (x : α) (l : List α) : List α := if (l.foldl (putStep key x) ([], false)).2 then (l.foldl (putStep key x) ([], false)).1 else (l.foldl (putStep key x) ([], false)).1 ++ [x]
theorem putStep_true {x : α} : ∀ (l pre : List α), (∀ y ∈ l, key y ≠ key x) → l.foldl (putStep key x) (pre, true) = (pre ++ l, true)
  | [], pre, _ => by simp
  | y :: l, pre, h => by
    rw [List.foldl_cons]
    have hy := h y (List.mem_cons_self ..)
    have : putStep key x (pre, true) y = (pre ++ [y], true) := by simp [putStep, hy]
    rw [this, putStep_true l _ fun z hz => h z (List.mem_cons_of_mem _ hz)]
    simp
theorem putStep_false {x : α} : ∀ (l pre : List α), l.Pairwise (fun x y => key x < key y) → (if (l.foldl (putStep key x) (pre, false)).2 then (l.foldl (putStep key x) (pre, false)).1 else (l.foldl (putStep key x) (pre, false)).1 ++ [x]) = pre ++ insK key x l
  | [], pre, _ => by simp [insK]
  | y :: l, pre, h => by
    rw [List.pairwise_cons] at h
    rw [List.foldl_cons]
    unfold insK
    by_cases h1 : key x < key y
    · have : putStep key x (pre, false) y = (pre ++ [x, y], true) := by
        have h2 : key x ≤ key y := by omega
        have h3 : ¬ key y = key x := by omega
        simp [putStep, h2, h3]
      rw [this, putStep_true l _ fun z hz => by have := h.1 z hz; omega, if_pos h1]
      simp
    · rw [if_neg h1]
      by_cases h2 : key y = key x
      · have : putStep key x (pre, false) y = (pre ++ [x], true) := by simp [putStep, h2]
        rw [this, putStep_true l _ fun z hz => by have := h.1 z hz; omega, if_pos h2]
        simp
      · have : putStep key x (pre, false) y = (pre ++ [y], false) := by
          have h3 : ¬ key x ≤ key y := by omega
          simp [putStep, h2, h3]
        rw [this, if_neg h2]
        have := putStep_false l (pre ++ [y]) h.2 (x := x)
        rw [this]; simp
theorem putRef_eq {x : α} {l : List α} (h : l.Pairwise (fun x y => key x < key y)) : putRef key x l = insK key x l := by
  have := putStep_false l [] h (x := x)
  rw [List.nil_append] at this
  exact this
end
end Go.Proofs.Ytnebibflmlgbbaa
